/- Contract of the reference's SameParams. -/
import Derived.Test.YtcjpibdgnjncmaaCodMay
import Derived.Test.YtcjpibdgnjncmaaSameT
import Derived.Outline
import Derived.Deep.CutBlock
import Derived.Deep.RegionHeld3
import Derived.Deep.DrawnRows
import Derived.Deep.DeepCutAuto
namespace Go.Proofs.Ytcjpibdgnjncmaa
open Go.RowKit
set_option linter.unusedVariables false
set_option linter.unusedSimpArgs false

theorem sameCs_cons (p q : ParC) (ps qs : List ParC) : sameCs (p :: ps) (q :: qs) = (sameC p q && sameCs ps qs) := by rw [sameCs]
theorem sameC_B (p q : ParC) : sameC p q = (sameB p.wd p.we p.wx q.wd q.we q.wx && (sameB p.bd p.be p.bx q.bd q.be q.bx && (p.m == q.m))) := by
  unfold sameC sameT sameB
  cases p.wd == q.wd <;> cases p.we == q.we <;> cases p.wx == q.wx <;> cases p.bd == q.bd <;> cases p.be == q.be <;> cases p.bx == q.bx <;> cases p.m == q.m <;> rfl
theorem take_ext32 {xs ys : List Int} {k : Nat} (h : xs.take k = ys.take k) (hx : xs[k]? = ys[k]?) : xs.take (k + 1) = ys.take (k + 1) := by
  rw [List.take_add_one, List.take_add_one, h, hx]
set_option maxHeartbeats 3200000 in
set_option maxRecDepth 100000 in
theorem rsamep_any (ps qs : List ParV) (v u : Value) (B : Nat) (w : World) (hB : B ≤ w.heap.size) (h : ParsOf w B v ps) (hu : ParsOf w B u qs) :
    Calls Try.prog 15 #[v, u] w fun en w' => en = .returned (.bool (sameCs (ps.map (·.c)) (qs.map (·.c)))) ∧ Below w.heap.size w w' := by
  obtain ⟨A, c, rfl⟩ := h.form
  obtain ⟨A', c', rfl⟩ := hu.form
  have hlen := h.len
  have hlen' := hu.len
  have HP := Lib.hid h
  have HQ := Lib.hid hu
  clear h hu
  obtain ⟨res, hres⟩ : ∃ res, sameCs (ps.map (·.c)) (qs.map (·.c)) = res := ⟨_, rfl⟩
  have HRES := Lib.hid hres
  rw [hres]
  clear hres
  by_cases hl : ps.length = qs.length
  · have t0 : ((ps.length : Int) != (qs.length : Int)) = false := by simp [hl]
    have HL := Lib.hid hl
    clear hl
    go_enter Try.func15, Try.ntmps15
    go_wp2_with fail
    clear t0
    go_loopw [14] (fun i wr => ∃ k : Nat, k ≤ ps.length ∧ i = .int .i64 k ∧ Hid ((ps.map (·.c)).take k = (qs.map (·.c)).take k) ∧ Hid (Below w.heap.size w wr)) (fun i _ => ps.length - (intOf i).toNat)
    case atStart => exact ⟨0, by omega, rfl, Lib.hid rfl, Lib.hid (Below.refl _ _)⟩
    case round =>
      obtain ⟨k, hk, rfl, HTK, HBR⟩ := hrel
      by_cases hlt : k < ps.length
      · obtain ⟨g, o, cp, pa, ea, hpa, hoka, hga, a0, a1', a2', a3', a4', a5', a6'⟩ := (HP.out.below (HBR.out.mono hB)).at_ hlt
        obtain ⟨h, r, cq, pb, eb, hpb, hokb, hgb, b0, b1', b2', b3', b4', b5', b6'⟩ := (HQ.out.below (HBR.out.mono hB)).at_ (k := k) (by have := HL.out; omega)
        injection ea with ea _ ea3
        injection eb with eb _ eb3
        subst ea ea3 eb eb3
        have HOA' := Lib.hid (HP.out.ok.out _ (List.mem_of_getElem? hpa))
        have HOB' := Lib.hid (HQ.out.ok.out _ (List.mem_of_getElem? hpb))
        obtain ⟨A1, a1, A2, a2, f1, f2⟩ := hoka.t.form
        obtain ⟨A3, a3, f3, _, _⟩ := hoka.m.form
        obtain ⟨A4, a4, A5, a5, f4, f5⟩ := hoka.b.form
        obtain ⟨B1, b1, B2, b2, g1, g2⟩ := hokb.t.form
        obtain ⟨B3, b3, g3, _, _⟩ := hokb.m.form
        obtain ⟨B4, b4, B5, b5, g4, g5⟩ := hokb.b.form
        rw [length_ints] at f3 g3
        obtain ⟨pwd, pwx, pmv, pbd, pbx, ac⟩ := pa
        obtain ⟨qwd, qwx, qmv, qbd, qbx, bc⟩ := pb
        dsimp only at f1 f2 f3 f4 f5 g1 g2 g3 g4 g5 a0 a1' a2' a3' a4' a5' a6' b0 b1' b2' b3' b4' b5' b6'
        subst f1 f2 f3 f4 f5 g1 g2 g3 g4 g5
        have s0 := HBR.out.size
        have i1 : (0 : Int) ≤ (k : Int) := by omega
        have i2 : (k : Int) < (ps.length : Int) := by omega
        have i3 : (k : Int) < (qs.length : Int) := by have := HL.out; omega
        have hgr : g < wr.heap.size := by omega
        have hhr : h < wr.heap.size := by omega
        have HX1 : Hid ((ps.map (·.c))[k]? = some ac) := Lib.hid (by rw [List.getElem?_map, hpa]; rfl)
        have HX2 : Hid ((qs.map (·.c))[k]? = some bc) := Lib.hid (by rw [List.getElem?_map, hpb]; rfl)
        have HNO : Hid (sameC ac bc = false → res = false) := Lib.hid (fun h => by rw [← HRES.out]; exact sameCs_false HX1.out HX2.out h)
        have HC : Hid (wr.cell? ⟨g, o + k * 7, none⟩ = some (.slice A1 ac.wd.length a1) ∧ wr.cell? ⟨g, o + k * 7 + 1, none⟩ = some (.int .i64 ac.we) ∧ wr.cell? ⟨g, o + k * 7 + 2, none⟩ = some (.slice A2 ac.wx.length a2) ∧ wr.cell? ⟨g, o + k * 7 + 3, none⟩ = some (.slice A3 ac.m.length a3) ∧ wr.cell? ⟨g, o + k * 7 + 4, none⟩ = some (.slice A4 ac.bd.length a4) ∧ wr.cell? ⟨g, o + k * 7 + 5, none⟩ = some (.int .i64 ac.be) ∧ wr.cell? ⟨g, o + k * 7 + 6, none⟩ = some (.slice A5 ac.bx.length a5) ∧ wr.cell? ⟨h, r + k * 7, none⟩ = some (.slice B1 bc.wd.length b1) ∧ wr.cell? ⟨h, r + k * 7 + 1, none⟩ = some (.int .i64 bc.we) ∧ wr.cell? ⟨h, r + k * 7 + 2, none⟩ = some (.slice B2 bc.wx.length b2) ∧ wr.cell? ⟨h, r + k * 7 + 3, none⟩ = some (.slice B3 bc.m.length b3) ∧ wr.cell? ⟨h, r + k * 7 + 4, none⟩ = some (.slice B4 bc.bd.length b4) ∧ wr.cell? ⟨h, r + k * 7 + 5, none⟩ = some (.int .i64 bc.be) ∧ wr.cell? ⟨h, r + k * 7 + 6, none⟩ = some (.slice B5 bc.bx.length b5)) := Lib.hid ⟨a0, a1', a2', a3', a4', a5', a6', b0, b1', b2', b3', b4', b5', b6'⟩
        clear hpa hpb hoka hokb
        go_upto_region 6 with fail
        clear a0 a1' a2' a3' a4' a5' a6' b0 b1' b2' b3' b4' b5' b6'
        have HBd := Lib.hid (HBR.out.drew)
        refine wp_region_held_drew (S := ((fun w' => w'.cell? ⟨g, o + k * 7, none⟩ = some (.slice A1 ac.wd.length a1) ∧ w'.cell? ⟨g, o + k * 7 + 1, none⟩ = some (.int .i64 ac.we) ∧ w'.cell? ⟨g, o + k * 7 + 2, none⟩ = some (.slice A2 ac.wx.length a2) ∧ w'.cell? ⟨g, o + k * 7 + 3, none⟩ = some (.slice A3 ac.m.length a3) ∧ w'.cell? ⟨g, o + k * 7 + 4, none⟩ = some (.slice A4 ac.bd.length a4) ∧ w'.cell? ⟨g, o + k * 7 + 5, none⟩ = some (.int .i64 ac.be) ∧ w'.cell? ⟨g, o + k * 7 + 6, none⟩ = some (.slice A5 ac.bx.length a5) ∧ w'.cell? ⟨h, r + k * 7, none⟩ = some (.slice B1 bc.wd.length b1) ∧ w'.cell? ⟨h, r + k * 7 + 1, none⟩ = some (.int .i64 bc.we) ∧ w'.cell? ⟨h, r + k * 7 + 2, none⟩ = some (.slice B2 bc.wx.length b2) ∧ w'.cell? ⟨h, r + k * 7 + 3, none⟩ = some (.slice B3 bc.m.length b3) ∧ w'.cell? ⟨h, r + k * 7 + 4, none⟩ = some (.slice B4 bc.bd.length b4) ∧ w'.cell? ⟨h, r + k * 7 + 5, none⟩ = some (.int .i64 bc.be) ∧ w'.cell? ⟨h, r + k * 7 + 6, none⟩ = some (.slice B5 bc.bx.length b5)))) (by kernel_rfl) (HC.out) (fun hHeld => ?_)
        have hzd : wr.heap.size = wr.drew.heap.size := rfl
        rw [hzd] at hgr hhr s0
        generalize wr.drew = wd at HBd hHeld hgr hhr s0 ⊢
        clear HC hzd
        have HT1 := Lib.hid (samet_any _ _ _ _ _ _ _ _ _ _ wd B (by omega) (HOA'.out.below (HBd.out.mono hB)).t (HOB'.out.below (HBd.out.mono hB)).t)
        dsimp only at HT1
        obtain ⟨s1, hs1⟩ : ∃ s1, sameB ac.wd ac.we ac.wx bc.wd bc.we bc.wx = s1 := ⟨_, rfl⟩
        rw [hs1] at HT1
        have HS1 := Lib.hid hs1
        clear hs1
        refine' wpAnyH_take (i := 0) (v := _) rfl (by kernel_rfl) (by kernel_rfl) (by kernel_rfl) (fun _ _ _ h => h) (Or.inl ⟨by rfl, ?taq37⟩) (by assumption) ?tbq37
        case taq37 =>
          intro wS hSw
          (try dsimp only at hSw)
          go_simp
          (try (with_reducible rfl))
        (try simp only [List.getElem_toArray, List.getElem_cons_zero, List.getElem_cons_succ, Act.put, List.setIfInBounds_toArray, List.set_cons_zero, List.set_cons_succ])
        refine' wpAnyH_take (i := 1) (v := _) rfl (by kernel_rfl) (by kernel_rfl) (by kernel_rfl) (fun _ _ _ h => h) (Or.inl ⟨by rfl, ?taq38⟩) (by assumption) ?tbq38
        case taq38 =>
          intro wS hSw
          (try dsimp only at hSw)
          go_simp
          (try (with_reducible rfl))
        (try simp only [List.getElem_toArray, List.getElem_cons_zero, List.getElem_cons_succ, Act.put, List.setIfInBounds_toArray, List.set_cons_zero, List.set_cons_succ])
        refine' wpAnyH_take (i := 2) (v := _) rfl (by kernel_rfl) (by kernel_rfl) (by kernel_rfl) (fun _ _ _ h => h) (Or.inl ⟨by rfl, ?taq39⟩) (by assumption) ?tbq39
        case taq39 =>
          intro wS hSw
          (try dsimp only at hSw)
          go_simp
          (try (with_reducible rfl))
        (try simp only [List.getElem_toArray, List.getElem_cons_zero, List.getElem_cons_succ, Act.put, List.setIfInBounds_toArray, List.set_cons_zero, List.set_cons_succ])
        refine' wpAnyH_take (i := 3) (v := _) rfl (by kernel_rfl) (by kernel_rfl) (by kernel_rfl) (fun _ _ _ h => h) (Or.inl ⟨by rfl, ?taq40⟩) (by assumption) ?tbq40
        case taq40 =>
          intro wS hSw
          (try dsimp only at hSw)
          go_simp
          (try (with_reducible rfl))
        (try simp only [List.getElem_toArray, List.getElem_cons_zero, List.getElem_cons_succ, Act.put, List.setIfInBounds_toArray, List.set_cons_zero, List.set_cons_succ])
        refine' wpAnyH_take (i := 4) (v := _) rfl (by kernel_rfl) (by kernel_rfl) (by kernel_rfl) (fun _ _ _ h => h) (Or.inl ⟨by rfl, ?taq41⟩) (by assumption) ?tbq41
        case taq41 =>
          intro wS hSw
          (try dsimp only at hSw)
          go_simp
          (try (with_reducible rfl))
        (try simp only [List.getElem_toArray, List.getElem_cons_zero, List.getElem_cons_succ, Act.put, List.setIfInBounds_toArray, List.set_cons_zero, List.set_cons_succ])
        refine' wpAnyH_take (i := 5) (v := _) rfl (by kernel_rfl) (by kernel_rfl) (by kernel_rfl) (fun _ _ _ h => h) (Or.inl ⟨by rfl, ?taq42⟩) (by assumption) ?tbq42
        case taq42 =>
          intro wS hSw
          (try dsimp only at hSw)
          go_simp
          (try (with_reducible rfl))
        (try simp only [List.getElem_toArray, List.getElem_cons_zero, List.getElem_cons_succ, Act.put, List.setIfInBounds_toArray, List.set_cons_zero, List.set_cons_succ])
        refine' wpAnyH_take (i := 6) (v := _) rfl (by kernel_rfl) (by kernel_rfl) (by kernel_rfl) (fun _ _ _ h => h) (Or.inl ⟨by rfl, ?taq43⟩) (by assumption) ?tbq43
        case taq43 =>
          intro wS hSw
          (try dsimp only at hSw)
          go_simp
          (try (with_reducible rfl))
        (try simp only [List.getElem_toArray, List.getElem_cons_zero, List.getElem_cons_succ, Act.put, List.setIfInBounds_toArray, List.set_cons_zero, List.set_cons_succ])
        refine' wpAnyH_take (i := 7) (v := _) rfl (by kernel_rfl) (by kernel_rfl) (by kernel_rfl) (fun _ _ _ h => h) (Or.inl ⟨by rfl, ?taq44⟩) (by assumption) ?tbq44
        case taq44 =>
          intro wS hSw
          (try dsimp only at hSw)
          go_simp
          (try (with_reducible rfl))
        (try simp only [List.getElem_toArray, List.getElem_cons_zero, List.getElem_cons_succ, Act.put, List.setIfInBounds_toArray, List.set_cons_zero, List.set_cons_succ])
        refine' wpAnyH_take (i := 8) (v := _) rfl (by kernel_rfl) (by kernel_rfl) (by kernel_rfl) (fun _ _ _ h => h) (Or.inl ⟨by rfl, ?taq45⟩) (by assumption) ?tbq45
        case taq45 =>
          intro wS hSw
          (try dsimp only at hSw)
          go_simp
          (try (with_reducible rfl))
        (try simp only [List.getElem_toArray, List.getElem_cons_zero, List.getElem_cons_succ, Act.put, List.setIfInBounds_toArray, List.set_cons_zero, List.set_cons_succ])
        refine' wpAnyH_take (i := 9) (v := _) rfl (by kernel_rfl) (by kernel_rfl) (by kernel_rfl) (fun _ _ _ h => h) (Or.inl ⟨by rfl, ?taq46⟩) (by assumption) ?tbq46
        case taq46 =>
          intro wS hSw
          (try dsimp only at hSw)
          go_simp
          (try (with_reducible rfl))
        (try simp only [List.getElem_toArray, List.getElem_cons_zero, List.getElem_cons_succ, Act.put, List.setIfInBounds_toArray, List.set_cons_zero, List.set_cons_succ])
        refine wpAnyH_ready (rs := [10]) (by kernel_rfl) (by simp) ?_
        refine AllReadyH.cons rfl (fun K9 hK9 => ?_) AllReadyH.nil
        (try simp only [List.getElem_toArray, List.getElem_cons_zero, List.getElem_cons_succ])
        go_simp
        refine HT1.out.mono ?_
        rintro en we ⟨rfl, hbe⟩
        have HBe := Lib.hid (HBd.out.trans (hbe.mono s0))
        have hHe : we.cell? ⟨g, o + k * 7, none⟩ = some (.slice A1 ac.wd.length a1) ∧ we.cell? ⟨g, o + k * 7 + 1, none⟩ = some (.int .i64 ac.we) ∧ we.cell? ⟨g, o + k * 7 + 2, none⟩ = some (.slice A2 ac.wx.length a2) ∧ we.cell? ⟨g, o + k * 7 + 3, none⟩ = some (.slice A3 ac.m.length a3) ∧ we.cell? ⟨g, o + k * 7 + 4, none⟩ = some (.slice A4 ac.bd.length a4) ∧ we.cell? ⟨g, o + k * 7 + 5, none⟩ = some (.int .i64 ac.be) ∧ we.cell? ⟨g, o + k * 7 + 6, none⟩ = some (.slice A5 ac.bx.length a5) ∧ we.cell? ⟨h, r + k * 7, none⟩ = some (.slice B1 bc.wd.length b1) ∧ we.cell? ⟨h, r + k * 7 + 1, none⟩ = some (.int .i64 bc.we) ∧ we.cell? ⟨h, r + k * 7 + 2, none⟩ = some (.slice B2 bc.wx.length b2) ∧ we.cell? ⟨h, r + k * 7 + 3, none⟩ = some (.slice B3 bc.m.length b3) ∧ we.cell? ⟨h, r + k * 7 + 4, none⟩ = some (.slice B4 bc.bd.length b4) ∧ we.cell? ⟨h, r + k * 7 + 5, none⟩ = some (.int .i64 bc.be) ∧ we.cell? ⟨h, r + k * 7 + 6, none⟩ = some (.slice B5 bc.bx.length b5) := ⟨(hbe.cell (p := ⟨g, o + k * 7, none⟩) (by dsimp only; omega)).trans hHeld.1, (hbe.cell (p := ⟨g, o + k * 7 + 1, none⟩) (by dsimp only; omega)).trans hHeld.2.1, (hbe.cell (p := ⟨g, o + k * 7 + 2, none⟩) (by dsimp only; omega)).trans hHeld.2.2.1, (hbe.cell (p := ⟨g, o + k * 7 + 3, none⟩) (by dsimp only; omega)).trans hHeld.2.2.2.1, (hbe.cell (p := ⟨g, o + k * 7 + 4, none⟩) (by dsimp only; omega)).trans hHeld.2.2.2.2.1, (hbe.cell (p := ⟨g, o + k * 7 + 5, none⟩) (by dsimp only; omega)).trans hHeld.2.2.2.2.2.1, (hbe.cell (p := ⟨g, o + k * 7 + 6, none⟩) (by dsimp only; omega)).trans hHeld.2.2.2.2.2.2.1, (hbe.cell (p := ⟨h, r + k * 7, none⟩) (by dsimp only; omega)).trans hHeld.2.2.2.2.2.2.2.1, (hbe.cell (p := ⟨h, r + k * 7 + 1, none⟩) (by dsimp only; omega)).trans hHeld.2.2.2.2.2.2.2.2.1, (hbe.cell (p := ⟨h, r + k * 7 + 2, none⟩) (by dsimp only; omega)).trans hHeld.2.2.2.2.2.2.2.2.2.1, (hbe.cell (p := ⟨h, r + k * 7 + 3, none⟩) (by dsimp only; omega)).trans hHeld.2.2.2.2.2.2.2.2.2.2.1, (hbe.cell (p := ⟨h, r + k * 7 + 4, none⟩) (by dsimp only; omega)).trans hHeld.2.2.2.2.2.2.2.2.2.2.2.1, (hbe.cell (p := ⟨h, r + k * 7 + 5, none⟩) (by dsimp only; omega)).trans hHeld.2.2.2.2.2.2.2.2.2.2.2.2.1, (hbe.cell (p := ⟨h, r + k * 7 + 6, none⟩) (by dsimp only; omega)).trans hHeld.2.2.2.2.2.2.2.2.2.2.2.2.2⟩
        have hse := hbe.size
        clear HT1 hbe hHeld
        refine hK9.out _ _ (hHe) (fun hHeld9 => ?_)
        clear hK9 K9
        (try simp only [List.getElem_toArray, List.getElem_cons_zero, List.getElem_cons_succ, Act.put, List.setIfInBounds_toArray, List.set_cons_zero, List.set_cons_succ])
        refine' wpAnyH_take (i := 11) (v := _) rfl (by kernel_rfl) (by kernel_rfl) (by kernel_rfl) (fun _ _ _ h => h) (Or.inl ⟨by rfl, ?taq47⟩) (by assumption) ?tbq47
        case taq47 =>
          intro wS hSw
          (try dsimp only at hSw)
          go_simp
          (try (with_reducible rfl))
        (try simp only [List.getElem_toArray, List.getElem_cons_zero, List.getElem_cons_succ, Act.put, List.setIfInBounds_toArray, List.set_cons_zero, List.set_cons_succ])
        refine' wpAnyH_take (i := 12) (v := _) rfl (by kernel_rfl) (by kernel_rfl) (by kernel_rfl) (fun _ _ _ h => h) (Or.inl ⟨by rfl, ?taq48⟩) (by assumption) ?tbq48
        case taq48 =>
          intro wS hSw
          (try dsimp only at hSw)
          go_simp
          (try (with_reducible rfl))
        (try simp only [List.getElem_toArray, List.getElem_cons_zero, List.getElem_cons_succ, Act.put, List.setIfInBounds_toArray, List.set_cons_zero, List.set_cons_succ])
        cases s1 with
        | false =>
          refine' wpAnyH_take (i := 13) (v := _) rfl (by kernel_rfl) (by kernel_rfl) (by kernel_rfl) (fun _ _ _ h => h) (Or.inr ⟨by rfl, rfl⟩) (by assumption) ?tbq49
          (try simp only [List.getElem_toArray, List.getElem_cons_zero, List.getElem_cons_succ, Act.put, List.setIfInBounds_toArray, List.set_cons_zero, List.set_cons_succ])
          refine' wpAnyH_take (i := 14) (v := _) rfl (by kernel_rfl) (by kernel_rfl) (by kernel_rfl) (fun _ _ _ h => h) (Or.inr ⟨by rfl, rfl⟩) (by assumption) ?tbq50
          (try simp only [List.getElem_toArray, List.getElem_cons_zero, List.getElem_cons_succ, Act.put, List.setIfInBounds_toArray, List.set_cons_zero, List.set_cons_succ])
          refine' wpAnyH_take (i := 15) (v := _) rfl (by kernel_rfl) (by kernel_rfl) (by kernel_rfl) (fun _ _ _ h => h) (Or.inr ⟨by rfl, rfl⟩) (by assumption) ?tbq51
          (try simp only [List.getElem_toArray, List.getElem_cons_zero, List.getElem_cons_succ, Act.put, List.setIfInBounds_toArray, List.set_cons_zero, List.set_cons_succ])
          refine' wpAnyH_take (i := 16) (v := _) rfl (by kernel_rfl) (by kernel_rfl) (by kernel_rfl) (fun _ _ _ h => h) (Or.inr ⟨by rfl, rfl⟩) (by assumption) ?tbq52
          (try simp only [List.getElem_toArray, List.getElem_cons_zero, List.getElem_cons_succ, Act.put, List.setIfInBounds_toArray, List.set_cons_zero, List.set_cons_succ])
          refine' wpAnyH_take (i := 17) (v := _) rfl (by kernel_rfl) (by kernel_rfl) (by kernel_rfl) (fun _ _ _ h => h) (Or.inr ⟨by rfl, rfl⟩) (by assumption) ?tbq53
          (try simp only [List.getElem_toArray, List.getElem_cons_zero, List.getElem_cons_succ, Act.put, List.setIfInBounds_toArray, List.set_cons_zero, List.set_cons_succ])
          refine' wpAnyH_take (i := 18) (v := _) rfl (by kernel_rfl) (by kernel_rfl) (by kernel_rfl) (fun _ _ _ h => h) (Or.inr ⟨by rfl, rfl⟩) (by assumption) ?tbq54
          (try simp only [List.getElem_toArray, List.getElem_cons_zero, List.getElem_cons_succ, Act.put, List.setIfInBounds_toArray, List.set_cons_zero, List.set_cons_succ])
          refine' wpAnyH_take (i := 19) (v := _) rfl (by kernel_rfl) (by kernel_rfl) (by kernel_rfl) (fun _ _ _ h => h) (Or.inr ⟨by rfl, rfl⟩) (by assumption) ?tbq55
          (try simp only [List.getElem_toArray, List.getElem_cons_zero, List.getElem_cons_succ, Act.put, List.setIfInBounds_toArray, List.set_cons_zero, List.set_cons_succ])
          refine' wpAnyH_take (i := 20) (v := _) rfl (by kernel_rfl) (by kernel_rfl) (by kernel_rfl) (fun _ _ _ h => h) (Or.inr ⟨by rfl, rfl⟩) (by assumption) ?tbq56
          (try simp only [List.getElem_toArray, List.getElem_cons_zero, List.getElem_cons_succ, Act.put, List.setIfInBounds_toArray, List.set_cons_zero, List.set_cons_succ])
          refine' wpAnyH_take (i := 21) (v := _) rfl (by kernel_rfl) (by kernel_rfl) (by kernel_rfl) (fun _ _ _ h => h) (Or.inr ⟨by rfl, rfl⟩) (by assumption) ?tbq57
          (try simp only [List.getElem_toArray, List.getElem_cons_zero, List.getElem_cons_succ, Act.put, List.setIfInBounds_toArray, List.set_cons_zero, List.set_cons_succ])
          refine' wpAnyH_take (i := 22) (v := _) rfl (by kernel_rfl) (by kernel_rfl) (by kernel_rfl) (fun _ _ _ h => h) (Or.inr ⟨by rfl, rfl⟩) (by assumption) ?tbq58
          (try simp only [List.getElem_toArray, List.getElem_cons_zero, List.getElem_cons_succ, Act.put, List.setIfInBounds_toArray, List.set_cons_zero, List.set_cons_succ])
          refine' wpAnyH_take (i := 23) (v := _) rfl (by kernel_rfl) (by kernel_rfl) (by kernel_rfl) (fun _ _ _ h => h) (Or.inr ⟨by rfl, rfl⟩) (by assumption) ?tbq59
          (try simp only [List.getElem_toArray, List.getElem_cons_zero, List.getElem_cons_succ, Act.put, List.setIfInBounds_toArray, List.set_cons_zero, List.set_cons_succ])
          refine' wpAnyH_take (i := 24) (v := _) rfl (by kernel_rfl) (by kernel_rfl) (by kernel_rfl) (fun _ _ _ h => h) (Or.inr ⟨by rfl, rfl⟩) (by assumption) ?tbq60
          (try simp only [List.getElem_toArray, List.getElem_cons_zero, List.getElem_cons_succ, Act.put, List.setIfInBounds_toArray, List.set_cons_zero, List.set_cons_succ])
          refine' wpAnyH_take (i := 25) (v := _) rfl (by kernel_rfl) (by kernel_rfl) (by kernel_rfl) (fun _ _ _ h => h) (Or.inl ⟨by rfl, ?taq61⟩) (by assumption) ?tbq61
          case taq61 =>
            intro wS hSw
            (try dsimp only at hSw)
            go_simp
            (try (with_reducible rfl))
          (try simp only [List.getElem_toArray, List.getElem_cons_zero, List.getElem_cons_succ, Act.put, List.setIfInBounds_toArray, List.set_cons_zero, List.set_cons_succ])
          refine' wpAnyH_take (i := 26) (v := _) rfl (by kernel_rfl) (by kernel_rfl) (by kernel_rfl) (fun _ _ _ h => h) (Or.inl ⟨by rfl, ?taq62⟩) (by assumption) ?tbq62
          case taq62 =>
            intro wS hSw
            (try dsimp only at hSw)
            go_simp
            (try (with_reducible rfl))
          (try simp only [List.getElem_toArray, List.getElem_cons_zero, List.getElem_cons_succ, Act.put, List.setIfInBounds_toArray, List.set_cons_zero, List.set_cons_succ])
          refine' wpAnyH_take (i := 27) (v := _) rfl (by kernel_rfl) (by kernel_rfl) (by kernel_rfl) (fun _ _ _ h => h) (Or.inr ⟨by rfl, rfl⟩) (by assumption) ?tbq63
          (try simp only [List.getElem_toArray, List.getElem_cons_zero, List.getElem_cons_succ, Act.put, List.setIfInBounds_toArray, List.set_cons_zero, List.set_cons_succ])
          refine' wpAnyH_take (i := 28) (v := _) rfl (by kernel_rfl) (by kernel_rfl) (by kernel_rfl) (fun _ _ _ h => h) (Or.inr ⟨by rfl, rfl⟩) (by assumption) ?tbq64
          (try simp only [List.getElem_toArray, List.getElem_cons_zero, List.getElem_cons_succ, Act.put, List.setIfInBounds_toArray, List.set_cons_zero, List.set_cons_succ])
          refine' wpAnyH_take (i := 29) (v := _) rfl (by kernel_rfl) (by kernel_rfl) (by kernel_rfl) (fun _ _ _ h => h) (Or.inr ⟨by rfl, rfl⟩) (by assumption) ?tbq65
          (try simp only [List.getElem_toArray, List.getElem_cons_zero, List.getElem_cons_succ, Act.put, List.setIfInBounds_toArray, List.set_cons_zero, List.set_cons_succ])
          refine' wpAnyH_take (i := 30) (v := _) rfl (by kernel_rfl) (by kernel_rfl) (by kernel_rfl) (fun _ _ _ h => h) (Or.inr ⟨by rfl, rfl⟩) (by assumption) ?tbq66
          (try simp only [List.getElem_toArray, List.getElem_cons_zero, List.getElem_cons_succ, Act.put, List.setIfInBounds_toArray, List.set_cons_zero, List.set_cons_succ])
          refine' wpAnyH_take (i := 31) (v := _) rfl (by kernel_rfl) (by kernel_rfl) (by kernel_rfl) (fun _ _ _ h => h) (Or.inr ⟨by rfl, rfl⟩) (by assumption) ?tbq67
          (try simp only [List.getElem_toArray, List.getElem_cons_zero, List.getElem_cons_succ, Act.put, List.setIfInBounds_toArray, List.set_cons_zero, List.set_cons_succ])
          refine' wpAnyH_take (i := 32) (v := _) rfl (by kernel_rfl) (by kernel_rfl) (by kernel_rfl) (fun _ _ _ h => h) (Or.inr ⟨by rfl, rfl⟩) (by assumption) ?tbq68
          (try simp only [List.getElem_toArray, List.getElem_cons_zero, List.getElem_cons_succ, Act.put, List.setIfInBounds_toArray, List.set_cons_zero, List.set_cons_succ])
          refine' wpAnyH_take (i := 33) (v := _) rfl (by kernel_rfl) (by kernel_rfl) (by kernel_rfl) (fun _ _ _ h => h) (Or.inr ⟨by rfl, rfl⟩) (by assumption) ?tbq69
          (try simp only [List.getElem_toArray, List.getElem_cons_zero, List.getElem_cons_succ, Act.put, List.setIfInBounds_toArray, List.set_cons_zero, List.set_cons_succ])
          refine' wpAnyH_take (i := 34) (v := _) rfl (by kernel_rfl) (by kernel_rfl) (by kernel_rfl) (fun _ _ _ h => h) (Or.inr ⟨by rfl, rfl⟩) (by assumption) ?tbq70
          (try simp only [List.getElem_toArray, List.getElem_cons_zero, List.getElem_cons_succ, Act.put, List.setIfInBounds_toArray, List.set_cons_zero, List.set_cons_succ])
          refine' wpAnyH_take (i := 35) (v := _) rfl (by kernel_rfl) (by kernel_rfl) (by kernel_rfl) (fun _ _ _ h => h) (Or.inr ⟨by rfl, rfl⟩) (by assumption) ?tbq71
          (try simp only [List.getElem_toArray, List.getElem_cons_zero, List.getElem_cons_succ, Act.put, List.setIfInBounds_toArray, List.set_cons_zero, List.set_cons_succ])
          refine' wpAnyH_take (i := 36) (v := _) rfl (by kernel_rfl) (by kernel_rfl) (by kernel_rfl) (fun _ _ _ h => h) (Or.inr ⟨by rfl, rfl⟩) (by assumption) ?tbq72
          (try simp only [List.getElem_toArray, List.getElem_cons_zero, List.getElem_cons_succ, Act.put, List.setIfInBounds_toArray, List.set_cons_zero, List.set_cons_succ])
          refine' wpAnyH_take (i := 37) (v := _) rfl (by kernel_rfl) (by kernel_rfl) (by kernel_rfl) (fun _ _ _ h => h) (Or.inr ⟨by rfl, rfl⟩) (by assumption) ?tbq73
          (try simp only [List.getElem_toArray, List.getElem_cons_zero, List.getElem_cons_succ, Act.put, List.setIfInBounds_toArray, List.set_cons_zero, List.set_cons_succ])
          refine' wpAnyH_take (i := 38) (v := _) rfl (by kernel_rfl) (by kernel_rfl) (by kernel_rfl) (fun _ _ _ h => h) (Or.inr ⟨by rfl, rfl⟩) (by assumption) ?tbq74
          (try simp only [List.getElem_toArray, List.getElem_cons_zero, List.getElem_cons_succ, Act.put, List.setIfInBounds_toArray, List.set_cons_zero, List.set_cons_succ])
          refine' wpAnyH_take (i := 39) (v := _) rfl (by kernel_rfl) (by kernel_rfl) (by kernel_rfl) (fun _ _ _ h => h) (Or.inr ⟨by rfl, rfl⟩) (by assumption) ?tbq75
          (try simp only [List.getElem_toArray, List.getElem_cons_zero, List.getElem_cons_succ, Act.put, List.setIfInBounds_toArray, List.set_cons_zero, List.set_cons_succ])
          refine' wpAnyH_take (i := 40) (v := _) rfl (by kernel_rfl) (by kernel_rfl) (by kernel_rfl) (fun _ _ _ h => h) (Or.inl ⟨by rfl, ?taq76⟩) (by assumption) ?tbq76
          case taq76 =>
            intro wS hSw
            (try dsimp only at hSw)
            go_simp
            (try (with_reducible rfl))
          (try simp only [List.getElem_toArray, List.getElem_cons_zero, List.getElem_cons_succ, Act.put, List.setIfInBounds_toArray, List.set_cons_zero, List.set_cons_succ])
          refine wpAnyH_done (by kernel_rfl) ?_ _
          have HF := Lib.hid (HNO.out (by rw [sameC_B, HS1.out]; rfl))
          clear hHeld9 hHe
          go_wp2_with fail
          go_ret
          exact ⟨by rw [HF.out]; rfl, HBe.out⟩
        | true =>
          have HT2 := Lib.hid (samet_any _ _ _ _ _ _ _ _ _ _ we B (by omega) (HOA'.out.below (HBe.out.mono hB)).b (HOB'.out.below (HBe.out.mono hB)).b)
          dsimp only at HT2
          obtain ⟨s2, hs2⟩ : ∃ s2, sameB ac.bd ac.be ac.bx bc.bd bc.be bc.bx = s2 := ⟨_, rfl⟩
          rw [hs2] at HT2
          have HS2 := Lib.hid hs2
          clear hs2
          refine' wpAnyH_take (i := 13) (v := _) rfl (by kernel_rfl) (by kernel_rfl) (by kernel_rfl) (fun _ _ _ h => h) (Or.inl ⟨by rfl, ?taq77⟩) (by assumption) ?tbq77
          case taq77 =>
            intro wS hSw
            (try dsimp only at hSw)
            go_simp
            (try (with_reducible rfl))
          (try simp only [List.getElem_toArray, List.getElem_cons_zero, List.getElem_cons_succ, Act.put, List.setIfInBounds_toArray, List.set_cons_zero, List.set_cons_succ])
          refine' wpAnyH_take (i := 14) (v := _) rfl (by kernel_rfl) (by kernel_rfl) (by kernel_rfl) (fun _ _ _ h => h) (Or.inl ⟨by rfl, ?taq78⟩) (by assumption) ?tbq78
          case taq78 =>
            intro wS hSw
            (try dsimp only at hSw)
            go_simp
            (try (with_reducible rfl))
          (try simp only [List.getElem_toArray, List.getElem_cons_zero, List.getElem_cons_succ, Act.put, List.setIfInBounds_toArray, List.set_cons_zero, List.set_cons_succ])
          refine' wpAnyH_take (i := 15) (v := _) rfl (by kernel_rfl) (by kernel_rfl) (by kernel_rfl) (fun _ _ _ h => h) (Or.inl ⟨by rfl, ?taq79⟩) (by assumption) ?tbq79
          case taq79 =>
            intro wS hSw
            (try dsimp only at hSw)
            go_simp
            (try (with_reducible rfl))
          (try simp only [List.getElem_toArray, List.getElem_cons_zero, List.getElem_cons_succ, Act.put, List.setIfInBounds_toArray, List.set_cons_zero, List.set_cons_succ])
          refine' wpAnyH_take (i := 16) (v := _) rfl (by kernel_rfl) (by kernel_rfl) (by kernel_rfl) (fun _ _ _ h => h) (Or.inl ⟨by rfl, ?taq80⟩) (by assumption) ?tbq80
          case taq80 =>
            intro wS hSw
            (try dsimp only at hSw)
            go_simp
            (try (with_reducible rfl))
          (try simp only [List.getElem_toArray, List.getElem_cons_zero, List.getElem_cons_succ, Act.put, List.setIfInBounds_toArray, List.set_cons_zero, List.set_cons_succ])
          refine' wpAnyH_take (i := 17) (v := _) rfl (by kernel_rfl) (by kernel_rfl) (by kernel_rfl) (fun _ _ _ h => h) (Or.inl ⟨by rfl, ?taq81⟩) (by assumption) ?tbq81
          case taq81 =>
            intro wS hSw
            (try dsimp only at hSw)
            go_simp
            (try (with_reducible rfl))
          (try simp only [List.getElem_toArray, List.getElem_cons_zero, List.getElem_cons_succ, Act.put, List.setIfInBounds_toArray, List.set_cons_zero, List.set_cons_succ])
          refine' wpAnyH_take (i := 18) (v := _) rfl (by kernel_rfl) (by kernel_rfl) (by kernel_rfl) (fun _ _ _ h => h) (Or.inl ⟨by rfl, ?taq82⟩) (by assumption) ?tbq82
          case taq82 =>
            intro wS hSw
            (try dsimp only at hSw)
            go_simp
            (try (with_reducible rfl))
          (try simp only [List.getElem_toArray, List.getElem_cons_zero, List.getElem_cons_succ, Act.put, List.setIfInBounds_toArray, List.set_cons_zero, List.set_cons_succ])
          refine' wpAnyH_take (i := 19) (v := _) rfl (by kernel_rfl) (by kernel_rfl) (by kernel_rfl) (fun _ _ _ h => h) (Or.inl ⟨by rfl, ?taq83⟩) (by assumption) ?tbq83
          case taq83 =>
            intro wS hSw
            (try dsimp only at hSw)
            go_simp
            (try (with_reducible rfl))
          (try simp only [List.getElem_toArray, List.getElem_cons_zero, List.getElem_cons_succ, Act.put, List.setIfInBounds_toArray, List.set_cons_zero, List.set_cons_succ])
          refine' wpAnyH_take (i := 20) (v := _) rfl (by kernel_rfl) (by kernel_rfl) (by kernel_rfl) (fun _ _ _ h => h) (Or.inl ⟨by rfl, ?taq84⟩) (by assumption) ?tbq84
          case taq84 =>
            intro wS hSw
            (try dsimp only at hSw)
            go_simp
            (try (with_reducible rfl))
          (try simp only [List.getElem_toArray, List.getElem_cons_zero, List.getElem_cons_succ, Act.put, List.setIfInBounds_toArray, List.set_cons_zero, List.set_cons_succ])
          refine' wpAnyH_take (i := 21) (v := _) rfl (by kernel_rfl) (by kernel_rfl) (by kernel_rfl) (fun _ _ _ h => h) (Or.inl ⟨by rfl, ?taq85⟩) (by assumption) ?tbq85
          case taq85 =>
            intro wS hSw
            (try dsimp only at hSw)
            go_simp
            (try (with_reducible rfl))
          (try simp only [List.getElem_toArray, List.getElem_cons_zero, List.getElem_cons_succ, Act.put, List.setIfInBounds_toArray, List.set_cons_zero, List.set_cons_succ])
          refine' wpAnyH_take (i := 22) (v := _) rfl (by kernel_rfl) (by kernel_rfl) (by kernel_rfl) (fun _ _ _ h => h) (Or.inl ⟨by rfl, ?taq86⟩) (by assumption) ?tbq86
          case taq86 =>
            intro wS hSw
            (try dsimp only at hSw)
            go_simp
            (try (with_reducible rfl))
          (try simp only [List.getElem_toArray, List.getElem_cons_zero, List.getElem_cons_succ, Act.put, List.setIfInBounds_toArray, List.set_cons_zero, List.set_cons_succ])
          refine wpAnyH_ready (rs := [23]) (by kernel_rfl) (by simp) ?_
          refine AllReadyH.cons rfl (fun K9 hK9 => ?_) AllReadyH.nil
          (try simp only [List.getElem_toArray, List.getElem_cons_zero, List.getElem_cons_succ])
          go_simp
          refine HT2.out.mono ?_
          rintro en wf ⟨rfl, hbe⟩
          have HBf := Lib.hid (HBe.out.trans (hbe.mono (by omega)))
          have hHf : wf.cell? ⟨g, o + k * 7, none⟩ = some (.slice A1 ac.wd.length a1) ∧ wf.cell? ⟨g, o + k * 7 + 1, none⟩ = some (.int .i64 ac.we) ∧ wf.cell? ⟨g, o + k * 7 + 2, none⟩ = some (.slice A2 ac.wx.length a2) ∧ wf.cell? ⟨g, o + k * 7 + 3, none⟩ = some (.slice A3 ac.m.length a3) ∧ wf.cell? ⟨g, o + k * 7 + 4, none⟩ = some (.slice A4 ac.bd.length a4) ∧ wf.cell? ⟨g, o + k * 7 + 5, none⟩ = some (.int .i64 ac.be) ∧ wf.cell? ⟨g, o + k * 7 + 6, none⟩ = some (.slice A5 ac.bx.length a5) ∧ wf.cell? ⟨h, r + k * 7, none⟩ = some (.slice B1 bc.wd.length b1) ∧ wf.cell? ⟨h, r + k * 7 + 1, none⟩ = some (.int .i64 bc.we) ∧ wf.cell? ⟨h, r + k * 7 + 2, none⟩ = some (.slice B2 bc.wx.length b2) ∧ wf.cell? ⟨h, r + k * 7 + 3, none⟩ = some (.slice B3 bc.m.length b3) ∧ wf.cell? ⟨h, r + k * 7 + 4, none⟩ = some (.slice B4 bc.bd.length b4) ∧ wf.cell? ⟨h, r + k * 7 + 5, none⟩ = some (.int .i64 bc.be) ∧ wf.cell? ⟨h, r + k * 7 + 6, none⟩ = some (.slice B5 bc.bx.length b5) := ⟨(hbe.cell (p := ⟨g, o + k * 7, none⟩) (by dsimp only; omega)).trans hHeld9.1, (hbe.cell (p := ⟨g, o + k * 7 + 1, none⟩) (by dsimp only; omega)).trans hHeld9.2.1, (hbe.cell (p := ⟨g, o + k * 7 + 2, none⟩) (by dsimp only; omega)).trans hHeld9.2.2.1, (hbe.cell (p := ⟨g, o + k * 7 + 3, none⟩) (by dsimp only; omega)).trans hHeld9.2.2.2.1, (hbe.cell (p := ⟨g, o + k * 7 + 4, none⟩) (by dsimp only; omega)).trans hHeld9.2.2.2.2.1, (hbe.cell (p := ⟨g, o + k * 7 + 5, none⟩) (by dsimp only; omega)).trans hHeld9.2.2.2.2.2.1, (hbe.cell (p := ⟨g, o + k * 7 + 6, none⟩) (by dsimp only; omega)).trans hHeld9.2.2.2.2.2.2.1, (hbe.cell (p := ⟨h, r + k * 7, none⟩) (by dsimp only; omega)).trans hHeld9.2.2.2.2.2.2.2.1, (hbe.cell (p := ⟨h, r + k * 7 + 1, none⟩) (by dsimp only; omega)).trans hHeld9.2.2.2.2.2.2.2.2.1, (hbe.cell (p := ⟨h, r + k * 7 + 2, none⟩) (by dsimp only; omega)).trans hHeld9.2.2.2.2.2.2.2.2.2.1, (hbe.cell (p := ⟨h, r + k * 7 + 3, none⟩) (by dsimp only; omega)).trans hHeld9.2.2.2.2.2.2.2.2.2.2.1, (hbe.cell (p := ⟨h, r + k * 7 + 4, none⟩) (by dsimp only; omega)).trans hHeld9.2.2.2.2.2.2.2.2.2.2.2.1, (hbe.cell (p := ⟨h, r + k * 7 + 5, none⟩) (by dsimp only; omega)).trans hHeld9.2.2.2.2.2.2.2.2.2.2.2.2.1, (hbe.cell (p := ⟨h, r + k * 7 + 6, none⟩) (by dsimp only; omega)).trans hHeld9.2.2.2.2.2.2.2.2.2.2.2.2.2⟩
          have hsf := hbe.size
          clear HT2 hbe hHeld9 hHe
          refine hK9.out _ _ (hHf) (fun hHeld9 => ?_)
          clear hK9 K9
          (try simp only [List.getElem_toArray, List.getElem_cons_zero, List.getElem_cons_succ, Act.put, List.setIfInBounds_toArray, List.set_cons_zero, List.set_cons_succ])
          refine' wpAnyH_take (i := 24) (v := _) rfl (by kernel_rfl) (by kernel_rfl) (by kernel_rfl) (fun _ _ _ h => h) (Or.inl ⟨by rfl, ?taq87⟩) (by assumption) ?tbq87
          case taq87 =>
            intro wS hSw
            (try dsimp only at hSw)
            go_simp
            (try (with_reducible rfl))
          (try simp only [List.getElem_toArray, List.getElem_cons_zero, List.getElem_cons_succ, Act.put, List.setIfInBounds_toArray, List.set_cons_zero, List.set_cons_succ])
          refine' wpAnyH_take (i := 25) (v := _) rfl (by kernel_rfl) (by kernel_rfl) (by kernel_rfl) (fun _ _ _ h => h) (Or.inl ⟨by rfl, ?taq88⟩) (by assumption) ?tbq88
          case taq88 =>
            intro wS hSw
            (try dsimp only at hSw)
            go_simp
            (try (with_reducible rfl))
          (try simp only [List.getElem_toArray, List.getElem_cons_zero, List.getElem_cons_succ, Act.put, List.setIfInBounds_toArray, List.set_cons_zero, List.set_cons_succ])
          refine' wpAnyH_take (i := 26) (v := _) rfl (by kernel_rfl) (by kernel_rfl) (by kernel_rfl) (fun _ _ _ h => h) (Or.inl ⟨by rfl, ?taq89⟩) (by assumption) ?tbq89
          case taq89 =>
            intro wS hSw
            (try dsimp only at hSw)
            go_simp
            (try (with_reducible rfl))
          (try simp only [List.getElem_toArray, List.getElem_cons_zero, List.getElem_cons_succ, Act.put, List.setIfInBounds_toArray, List.set_cons_zero, List.set_cons_succ])
          cases s2 with
          | false =>
            refine' wpAnyH_take (i := 27) (v := _) rfl (by kernel_rfl) (by kernel_rfl) (by kernel_rfl) (fun _ _ _ h => h) (Or.inr ⟨by rfl, rfl⟩) (by assumption) ?tbq90
            (try simp only [List.getElem_toArray, List.getElem_cons_zero, List.getElem_cons_succ, Act.put, List.setIfInBounds_toArray, List.set_cons_zero, List.set_cons_succ])
            refine' wpAnyH_take (i := 28) (v := _) rfl (by kernel_rfl) (by kernel_rfl) (by kernel_rfl) (fun _ _ _ h => h) (Or.inr ⟨by rfl, rfl⟩) (by assumption) ?tbq91
            (try simp only [List.getElem_toArray, List.getElem_cons_zero, List.getElem_cons_succ, Act.put, List.setIfInBounds_toArray, List.set_cons_zero, List.set_cons_succ])
            refine' wpAnyH_take (i := 29) (v := _) rfl (by kernel_rfl) (by kernel_rfl) (by kernel_rfl) (fun _ _ _ h => h) (Or.inr ⟨by rfl, rfl⟩) (by assumption) ?tbq92
            (try simp only [List.getElem_toArray, List.getElem_cons_zero, List.getElem_cons_succ, Act.put, List.setIfInBounds_toArray, List.set_cons_zero, List.set_cons_succ])
            refine' wpAnyH_take (i := 30) (v := _) rfl (by kernel_rfl) (by kernel_rfl) (by kernel_rfl) (fun _ _ _ h => h) (Or.inr ⟨by rfl, rfl⟩) (by assumption) ?tbq93
            (try simp only [List.getElem_toArray, List.getElem_cons_zero, List.getElem_cons_succ, Act.put, List.setIfInBounds_toArray, List.set_cons_zero, List.set_cons_succ])
            refine' wpAnyH_take (i := 31) (v := _) rfl (by kernel_rfl) (by kernel_rfl) (by kernel_rfl) (fun _ _ _ h => h) (Or.inr ⟨by rfl, rfl⟩) (by assumption) ?tbq94
            (try simp only [List.getElem_toArray, List.getElem_cons_zero, List.getElem_cons_succ, Act.put, List.setIfInBounds_toArray, List.set_cons_zero, List.set_cons_succ])
            refine' wpAnyH_take (i := 32) (v := _) rfl (by kernel_rfl) (by kernel_rfl) (by kernel_rfl) (fun _ _ _ h => h) (Or.inr ⟨by rfl, rfl⟩) (by assumption) ?tbq95
            (try simp only [List.getElem_toArray, List.getElem_cons_zero, List.getElem_cons_succ, Act.put, List.setIfInBounds_toArray, List.set_cons_zero, List.set_cons_succ])
            refine' wpAnyH_take (i := 33) (v := _) rfl (by kernel_rfl) (by kernel_rfl) (by kernel_rfl) (fun _ _ _ h => h) (Or.inr ⟨by rfl, rfl⟩) (by assumption) ?tbq96
            (try simp only [List.getElem_toArray, List.getElem_cons_zero, List.getElem_cons_succ, Act.put, List.setIfInBounds_toArray, List.set_cons_zero, List.set_cons_succ])
            refine' wpAnyH_take (i := 34) (v := _) rfl (by kernel_rfl) (by kernel_rfl) (by kernel_rfl) (fun _ _ _ h => h) (Or.inr ⟨by rfl, rfl⟩) (by assumption) ?tbq97
            (try simp only [List.getElem_toArray, List.getElem_cons_zero, List.getElem_cons_succ, Act.put, List.setIfInBounds_toArray, List.set_cons_zero, List.set_cons_succ])
            refine' wpAnyH_take (i := 35) (v := _) rfl (by kernel_rfl) (by kernel_rfl) (by kernel_rfl) (fun _ _ _ h => h) (Or.inr ⟨by rfl, rfl⟩) (by assumption) ?tbq98
            (try simp only [List.getElem_toArray, List.getElem_cons_zero, List.getElem_cons_succ, Act.put, List.setIfInBounds_toArray, List.set_cons_zero, List.set_cons_succ])
            refine' wpAnyH_take (i := 36) (v := _) rfl (by kernel_rfl) (by kernel_rfl) (by kernel_rfl) (fun _ _ _ h => h) (Or.inr ⟨by rfl, rfl⟩) (by assumption) ?tbq99
            (try simp only [List.getElem_toArray, List.getElem_cons_zero, List.getElem_cons_succ, Act.put, List.setIfInBounds_toArray, List.set_cons_zero, List.set_cons_succ])
            refine' wpAnyH_take (i := 37) (v := _) rfl (by kernel_rfl) (by kernel_rfl) (by kernel_rfl) (fun _ _ _ h => h) (Or.inr ⟨by rfl, rfl⟩) (by assumption) ?tbq100
            (try simp only [List.getElem_toArray, List.getElem_cons_zero, List.getElem_cons_succ, Act.put, List.setIfInBounds_toArray, List.set_cons_zero, List.set_cons_succ])
            refine' wpAnyH_take (i := 38) (v := _) rfl (by kernel_rfl) (by kernel_rfl) (by kernel_rfl) (fun _ _ _ h => h) (Or.inr ⟨by rfl, rfl⟩) (by assumption) ?tbq101
            (try simp only [List.getElem_toArray, List.getElem_cons_zero, List.getElem_cons_succ, Act.put, List.setIfInBounds_toArray, List.set_cons_zero, List.set_cons_succ])
            refine' wpAnyH_take (i := 39) (v := _) rfl (by kernel_rfl) (by kernel_rfl) (by kernel_rfl) (fun _ _ _ h => h) (Or.inr ⟨by rfl, rfl⟩) (by assumption) ?tbq102
            (try simp only [List.getElem_toArray, List.getElem_cons_zero, List.getElem_cons_succ, Act.put, List.setIfInBounds_toArray, List.set_cons_zero, List.set_cons_succ])
            refine' wpAnyH_take (i := 40) (v := _) rfl (by kernel_rfl) (by kernel_rfl) (by kernel_rfl) (fun _ _ _ h => h) (Or.inl ⟨by rfl, ?taq103⟩) (by assumption) ?tbq103
            case taq103 =>
              intro wS hSw
              (try dsimp only at hSw)
              go_simp
              (try (with_reducible rfl))
            (try simp only [List.getElem_toArray, List.getElem_cons_zero, List.getElem_cons_succ, Act.put, List.setIfInBounds_toArray, List.set_cons_zero, List.set_cons_succ])
            refine wpAnyH_done (by kernel_rfl) ?_ _
            have HF := Lib.hid (HNO.out (by rw [sameC_B, HS1.out, HS2.out]; rfl))
            clear hHeld9 hHf
            go_wp2_with fail
            go_ret
            exact ⟨by rw [HF.out]; rfl, HBf.out⟩
          | true =>
            by_cases hml : ac.m.length = bc.m.length
            · have tm : ((ac.m.length : Int) != (bc.m.length : Int)) = false := by simp [hml]
              refine' wpAnyH_take (i := 27) (v := _) rfl (by kernel_rfl) (by kernel_rfl) (by kernel_rfl) (fun _ _ _ h => h) (Or.inl ⟨by rfl, ?taq104⟩) (by assumption) ?tbq104
              case taq104 =>
                intro wS hSw
                (try dsimp only at hSw)
                go_simp
                (try (with_reducible rfl))
              (try simp only [List.getElem_toArray, List.getElem_cons_zero, List.getElem_cons_succ, Act.put, List.setIfInBounds_toArray, List.set_cons_zero, List.set_cons_succ])
              refine' wpAnyH_take (i := 28) (v := _) rfl (by kernel_rfl) (by kernel_rfl) (by kernel_rfl) (fun _ _ _ h => h) (Or.inl ⟨by rfl, ?taq105⟩) (by assumption) ?tbq105
              case taq105 =>
                intro wS hSw
                (try dsimp only at hSw)
                go_simp
                (try (with_reducible rfl))
              (try simp only [List.getElem_toArray, List.getElem_cons_zero, List.getElem_cons_succ, Act.put, List.setIfInBounds_toArray, List.set_cons_zero, List.set_cons_succ])
              refine' wpAnyH_take (i := 29) (v := _) rfl (by kernel_rfl) (by kernel_rfl) (by kernel_rfl) (fun _ _ _ h => h) (Or.inl ⟨by rfl, ?taq106⟩) (by assumption) ?tbq106
              case taq106 =>
                intro wS hSw
                (try dsimp only at hSw)
                go_simp
                (try (with_reducible rfl))
              (try simp only [List.getElem_toArray, List.getElem_cons_zero, List.getElem_cons_succ, Act.put, List.setIfInBounds_toArray, List.set_cons_zero, List.set_cons_succ])
              refine' wpAnyH_take (i := 30) (v := _) rfl (by kernel_rfl) (by kernel_rfl) (by kernel_rfl) (fun _ _ _ h => h) (Or.inl ⟨by rfl, ?taq107⟩) (by assumption) ?tbq107
              case taq107 =>
                intro wS hSw
                (try dsimp only at hSw)
                go_simp
                (try (with_reducible rfl))
              (try simp only [List.getElem_toArray, List.getElem_cons_zero, List.getElem_cons_succ, Act.put, List.setIfInBounds_toArray, List.set_cons_zero, List.set_cons_succ])
              refine' wpAnyH_take (i := 31) (v := _) rfl (by kernel_rfl) (by kernel_rfl) (by kernel_rfl) (fun _ _ _ h => h) (Or.inl ⟨by rfl, ?taq108⟩) (by assumption) ?tbq108
              case taq108 =>
                intro wS hSw
                (try dsimp only at hSw)
                go_simp
                (try (with_reducible rfl))
              (try simp only [List.getElem_toArray, List.getElem_cons_zero, List.getElem_cons_succ, Act.put, List.setIfInBounds_toArray, List.set_cons_zero, List.set_cons_succ])
              refine' wpAnyH_take (i := 32) (v := _) rfl (by kernel_rfl) (by kernel_rfl) (by kernel_rfl) (fun _ _ _ h => h) (Or.inl ⟨by rfl, ?taq109⟩) (by assumption) ?tbq109
              case taq109 =>
                intro wS hSw
                (try dsimp only at hSw)
                go_simp
                (try (with_reducible rfl))
              (try simp only [List.getElem_toArray, List.getElem_cons_zero, List.getElem_cons_succ, Act.put, List.setIfInBounds_toArray, List.set_cons_zero, List.set_cons_succ])
              refine' wpAnyH_take (i := 33) (v := _) rfl (by kernel_rfl) (by kernel_rfl) (by kernel_rfl) (fun _ _ _ h => h) (Or.inl ⟨by rfl, ?taq110⟩) (by assumption) ?tbq110
              case taq110 =>
                intro wS hSw
                (try dsimp only at hSw)
                go_simp
                (try (with_reducible rfl))
              (try simp only [List.getElem_toArray, List.getElem_cons_zero, List.getElem_cons_succ, Act.put, List.setIfInBounds_toArray, List.set_cons_zero, List.set_cons_succ])
              refine' wpAnyH_take (i := 34) (v := _) rfl (by kernel_rfl) (by kernel_rfl) (by kernel_rfl) (fun _ _ _ h => h) (Or.inl ⟨by rfl, ?taq111⟩) (by assumption) ?tbq111
              case taq111 =>
                intro wS hSw
                (try dsimp only at hSw)
                go_simp
                (try (with_reducible rfl))
              (try simp only [List.getElem_toArray, List.getElem_cons_zero, List.getElem_cons_succ, Act.put, List.setIfInBounds_toArray, List.set_cons_zero, List.set_cons_succ])
              refine' wpAnyH_take (i := 35) (v := _) rfl (by kernel_rfl) (by kernel_rfl) (by kernel_rfl) (fun _ _ _ h => h) (Or.inl ⟨by rfl, ?taq112⟩) (by assumption) ?tbq112
              case taq112 =>
                intro wS hSw
                (try dsimp only at hSw)
                go_simp
                (try (with_reducible rfl))
              (try simp only [List.getElem_toArray, List.getElem_cons_zero, List.getElem_cons_succ, Act.put, List.setIfInBounds_toArray, List.set_cons_zero, List.set_cons_succ])
              refine' wpAnyH_take (i := 36) (v := _) rfl (by kernel_rfl) (by kernel_rfl) (by kernel_rfl) (fun _ _ _ h => h) (Or.inl ⟨by rfl, ?taq113⟩) (by assumption) ?tbq113
              case taq113 =>
                intro wS hSw
                (try dsimp only at hSw)
                go_simp
                (try (with_reducible rfl))
              (try simp only [List.getElem_toArray, List.getElem_cons_zero, List.getElem_cons_succ, Act.put, List.setIfInBounds_toArray, List.set_cons_zero, List.set_cons_succ])
              refine' wpAnyH_take (i := 37) (v := _) rfl (by kernel_rfl) (by kernel_rfl) (by kernel_rfl) (fun _ _ _ h => h) (Or.inl ⟨by rfl, ?taq114⟩) (by assumption) ?tbq114
              case taq114 =>
                intro wS hSw
                (try dsimp only at hSw)
                go_simp
                (try (with_reducible rfl))
              (try simp only [List.getElem_toArray, List.getElem_cons_zero, List.getElem_cons_succ, Act.put, List.setIfInBounds_toArray, List.set_cons_zero, List.set_cons_succ])
              refine' wpAnyH_take (i := 38) (v := _) rfl (by kernel_rfl) (by kernel_rfl) (by kernel_rfl) (fun _ _ _ h => h) (Or.inl ⟨by rfl, ?taq115⟩) (by assumption) ?tbq115
              case taq115 =>
                intro wS hSw
                (try dsimp only at hSw)
                go_simp
                (try (with_reducible rfl))
              (try simp only [List.getElem_toArray, List.getElem_cons_zero, List.getElem_cons_succ, Act.put, List.setIfInBounds_toArray, List.set_cons_zero, List.set_cons_succ])
              refine' wpAnyH_take (i := 39) (v := _) rfl (by kernel_rfl) (by kernel_rfl) (by kernel_rfl) (fun _ _ _ h => h) (Or.inl ⟨by rfl, ?taq116⟩) (by assumption) ?tbq116
              case taq116 =>
                intro wS hSw
                (try dsimp only at hSw)
                go_simp
                (try (with_reducible rfl))
              (try simp only [List.getElem_toArray, List.getElem_cons_zero, List.getElem_cons_succ, Act.put, List.setIfInBounds_toArray, List.set_cons_zero, List.set_cons_succ])
              refine' wpAnyH_take (i := 40) (v := _) rfl (by kernel_rfl) (by kernel_rfl) (by kernel_rfl) (fun _ _ _ h => h) (Or.inl ⟨by rfl, ?taq117⟩) (by assumption) ?tbq117
              case taq117 =>
                intro wS hSw
                (try dsimp only at hSw)
                go_simp
                (try (with_reducible rfl))
              (try simp only [List.getElem_toArray, List.getElem_cons_zero, List.getElem_cons_succ, Act.put, List.setIfInBounds_toArray, List.set_cons_zero, List.set_cons_succ])
              refine wpAnyH_done (by kernel_rfl) ?_ _
              have HML := Lib.hid hml
              clear hHeld9 hml tm
              have HC2 := Lib.hid hHf
              obtain ⟨a0, a1', a2', a3', a4', a5', a6', b0, b1', b2', b3', b4', b5', b6'⟩ := hHf
              go_wp2_with fail
              clear a0 a1' a2' a3' a4' a5' a6' b0 b1' b2' b3' b4' b5' b6'
              have hlm : ac.m.length ≤ 4503599627370496 := by have := HOA'.out.ln; unfold lenP at this; dsimp only at this; omega
              go_loopw [64] (fun i wq => ∃ (j n : Nat), j ≤ ac.m.length ∧ i = .int .i64 j ∧ wq = wf.drewN n ∧ Hid (ac.m.take j = bc.m.take j)) (fun i _ => ac.m.length - (intOf i).toNat)
              case atStart => exact ⟨0, 0, by omega, rfl, rfl, Lib.hid rfl⟩
              case round =>
                obtain ⟨j, n, hj, rfl, rfl, HTJ⟩ := hrel
                by_cases hjl : j < ac.m.length
                · have hjl' : j < bc.m.length := by have := HML.out; omega
                  have HMA := HOA'.out.below (HBf.out.mono hB)
                  have HMB := HOB'.out.below (HBf.out.mono hB)
                  obtain ⟨x, hx⟩ : ∃ x, ac.m[j]? = some x := ⟨ac.m[j], List.getElem?_eq_getElem hjl⟩
                  obtain ⟨y, hy⟩ : ∃ y, bc.m[j]? = some y := ⟨bc.m[j], List.getElem?_eq_getElem hjl'⟩
                  obtain ⟨_, _, _, e7, l7, f7, m7, at7⟩ := HMA.m
                  dsimp only at e7 l7
                  injection e7 with e7 e8 e9
                  subst e7 e8 e9
                  obtain ⟨g7, o7, hA7, hg7, hx7⟩ := at7.out (by omega)
                  subst hA7
                  have k7 := hx7 j (.int .i32 x) (by unfold ints; rw [List.getElem?_map]; dsimp only; rw [hx]; rfl)
                  obtain ⟨_, _, _, e7, l8, f8, m8, at8⟩ := HMB.m
                  dsimp only at e7 l8
                  injection e7 with e7 e8 e9
                  subst e7 e8 e9
                  obtain ⟨g8, o8, hA8, hg8, hx8⟩ := at8.out (by omega)
                  subst hA8
                  have k8 := hx8 j (.int .i32 y) (by unfold ints; rw [List.getElem?_map]; dsimp only; rw [hy]; rfl)
                  have HXJ := Lib.hid hx
                  have HYJ := Lib.hid hy
                  obtain ⟨_, _, _, c3, _, _, _, _, _, _, d3, _, _, _⟩ := HC2.out
                  have hgl : g7 < wf.heap.size := by omega
                  have hhl : g8 < wf.heap.size := by omega
                  have j0 : (0 : Int) ≤ (j : Int) := by omega
                  have j1 : (j : Int) < (ac.m.length : Int) := by omega
                  have j2 : (j : Int) < (bc.m.length : Int) := by omega
                  clear HMA HMB at7 at8 hx7 hx8 hx hy l7 l8 f7 f8 m7 m8
                  cases hxy : (x != y) with
                  | true =>
                    have HXY := Lib.hid hxy
                    have hxy' : (x == y) = false := by cases h5 : (x == y) with | false => rfl | true => rw [show (x != y) = !(x == y) from rfl, h5] at hxy; cases hxy
                    have HF := Lib.hid (HNO.out (by
                      rw [sameC_B, HS1.out, HS2.out]
                      show (ac.m == bc.m) = false
                      rw [beq_eq_false_iff_ne]
                      intro e
                      have h1 := HXJ.out
                      rw [e, HYJ.out] at h1
                      injection h1 with h1
                      rw [h1] at hxy'
                      simp at hxy'))
                    clear hxy'
                    go_upto_region 11 with fail
                    refine wp_region_held_drew (S := ((fun w' => w'.cell? ⟨g, o + k * 7 + 3, none⟩ = some (.slice (some ⟨g7, o7, none⟩) ac.m.length a3) ∧ w'.cell? ⟨h, r + k * 7 + 3, none⟩ = some (.slice (some ⟨g8, o8, none⟩) bc.m.length b3) ∧ w'.cell? ⟨g7, o7 + j, none⟩ = some (.int .i32 x) ∧ w'.cell? ⟨g8, o8 + j, none⟩ = some (.int .i32 y)))) (by kernel_rfl) (⟨c3, d3, k7, k8⟩) (fun hHeld => ?_)
                    clear c3 d3 k7 k8
                    refine' wpAnyH_take (i := 0) (v := _) rfl (by kernel_rfl) (by kernel_rfl) (by kernel_rfl) (fun _ _ _ h => h) (Or.inl ⟨by rfl, ?taq118⟩) (by assumption) ?tbq118
                    case taq118 =>
                      intro wS hSw
                      (try dsimp only at hSw)
                      go_simp
                      (try (with_reducible rfl))
                    (try simp only [List.getElem_toArray, List.getElem_cons_zero, List.getElem_cons_succ, Act.put, List.setIfInBounds_toArray, List.set_cons_zero, List.set_cons_succ])
                    refine' wpAnyH_take (i := 1) (v := _) rfl (by kernel_rfl) (by kernel_rfl) (by kernel_rfl) (fun _ _ _ h => h) (Or.inl ⟨by rfl, ?taq119⟩) (by assumption) ?tbq119
                    case taq119 =>
                      intro wS hSw
                      (try dsimp only at hSw)
                      go_simp
                      (try (with_reducible rfl))
                    (try simp only [List.getElem_toArray, List.getElem_cons_zero, List.getElem_cons_succ, Act.put, List.setIfInBounds_toArray, List.set_cons_zero, List.set_cons_succ])
                    refine' wpAnyH_take (i := 2) (v := _) rfl (by kernel_rfl) (by kernel_rfl) (by kernel_rfl) (fun _ _ _ h => h) (Or.inl ⟨by rfl, ?taq120⟩) (by assumption) ?tbq120
                    case taq120 =>
                      intro wS hSw
                      (try dsimp only at hSw)
                      go_simp
                      (try (with_reducible rfl))
                    (try simp only [List.getElem_toArray, List.getElem_cons_zero, List.getElem_cons_succ, Act.put, List.setIfInBounds_toArray, List.set_cons_zero, List.set_cons_succ])
                    refine' wpAnyH_take (i := 3) (v := _) rfl (by kernel_rfl) (by kernel_rfl) (by kernel_rfl) (fun _ _ _ h => h) (Or.inl ⟨by rfl, ?taq121⟩) (by assumption) ?tbq121
                    case taq121 =>
                      intro wS hSw
                      (try dsimp only at hSw)
                      go_simp
                      (try (with_reducible rfl))
                    (try simp only [List.getElem_toArray, List.getElem_cons_zero, List.getElem_cons_succ, Act.put, List.setIfInBounds_toArray, List.set_cons_zero, List.set_cons_succ])
                    refine' wpAnyH_take (i := 4) (v := _) rfl (by kernel_rfl) (by kernel_rfl) (by kernel_rfl) (fun _ _ _ h => h) (Or.inl ⟨by rfl, ?taq122⟩) (by assumption) ?tbq122
                    case taq122 =>
                      intro wS hSw
                      (try dsimp only at hSw)
                      go_simp
                      (try (with_reducible rfl))
                    (try simp only [List.getElem_toArray, List.getElem_cons_zero, List.getElem_cons_succ, Act.put, List.setIfInBounds_toArray, List.set_cons_zero, List.set_cons_succ])
                    refine' wpAnyH_take (i := 5) (v := _) rfl (by kernel_rfl) (by kernel_rfl) (by kernel_rfl) (fun _ _ _ h => h) (Or.inl ⟨by rfl, ?taq123⟩) (by assumption) ?tbq123
                    case taq123 =>
                      intro wS hSw
                      (try dsimp only at hSw)
                      go_simp
                      (try (with_reducible rfl))
                    (try simp only [List.getElem_toArray, List.getElem_cons_zero, List.getElem_cons_succ, Act.put, List.setIfInBounds_toArray, List.set_cons_zero, List.set_cons_succ])
                    refine' wpAnyH_take (i := 6) (v := _) rfl (by kernel_rfl) (by kernel_rfl) (by kernel_rfl) (fun _ _ _ h => h) (Or.inl ⟨by rfl, ?taq124⟩) (by assumption) ?tbq124
                    case taq124 =>
                      intro wS hSw
                      (try dsimp only at hSw)
                      go_simp
                      (try (with_reducible rfl))
                    (try simp only [List.getElem_toArray, List.getElem_cons_zero, List.getElem_cons_succ, Act.put, List.setIfInBounds_toArray, List.set_cons_zero, List.set_cons_succ])
                    refine' wpAnyH_take (i := 7) (v := _) rfl (by kernel_rfl) (by kernel_rfl) (by kernel_rfl) (fun _ _ _ h => h) (Or.inl ⟨by rfl, ?taq125⟩) (by assumption) ?tbq125
                    case taq125 =>
                      intro wS hSw
                      (try dsimp only at hSw)
                      go_simp
                      (try (with_reducible rfl))
                    (try simp only [List.getElem_toArray, List.getElem_cons_zero, List.getElem_cons_succ, Act.put, List.setIfInBounds_toArray, List.set_cons_zero, List.set_cons_succ])
                    refine' wpAnyH_take (i := 8) (v := _) rfl (by kernel_rfl) (by kernel_rfl) (by kernel_rfl) (fun _ _ _ h => h) (Or.inl ⟨by rfl, ?taq126⟩) (by assumption) ?tbq126
                    case taq126 =>
                      intro wS hSw
                      (try dsimp only at hSw)
                      go_simp
                      (try (with_reducible rfl))
                    (try simp only [List.getElem_toArray, List.getElem_cons_zero, List.getElem_cons_succ, Act.put, List.setIfInBounds_toArray, List.set_cons_zero, List.set_cons_succ])
                    refine' wpAnyH_take (i := 9) (v := _) rfl (by kernel_rfl) (by kernel_rfl) (by kernel_rfl) (fun _ _ _ h => h) (Or.inl ⟨by rfl, ?taq127⟩) (by assumption) ?tbq127
                    case taq127 =>
                      intro wS hSw
                      (try dsimp only at hSw)
                      go_simp
                      (try (with_reducible rfl))
                    (try simp only [List.getElem_toArray, List.getElem_cons_zero, List.getElem_cons_succ, Act.put, List.setIfInBounds_toArray, List.set_cons_zero, List.set_cons_succ])
                    refine' wpAnyH_take (i := 10) (v := _) rfl (by kernel_rfl) (by kernel_rfl) (by kernel_rfl) (fun _ _ _ h => h) (Or.inl ⟨by rfl, ?taq128⟩) (by assumption) ?tbq128
                    case taq128 =>
                      intro wS hSw
                      (try dsimp only at hSw)
                      go_simp
                      (try (with_reducible rfl))
                    (try simp only [List.getElem_toArray, List.getElem_cons_zero, List.getElem_cons_succ, Act.put, List.setIfInBounds_toArray, List.set_cons_zero, List.set_cons_succ])
                    refine' wpAnyH_take (i := 11) (v := _) rfl (by kernel_rfl) (by kernel_rfl) (by kernel_rfl) (fun _ _ _ h => h) (Or.inl ⟨by rfl, ?taq129⟩) (by assumption) ?tbq129
                    case taq129 =>
                      intro wS hSw
                      (try dsimp only at hSw)
                      go_simp
                      (try (with_reducible rfl))
                    (try simp only [List.getElem_toArray, List.getElem_cons_zero, List.getElem_cons_succ, Act.put, List.setIfInBounds_toArray, List.set_cons_zero, List.set_cons_succ])
                    refine' wpAnyH_take (i := 12) (v := _) rfl (by kernel_rfl) (by kernel_rfl) (by kernel_rfl) (fun _ _ _ h => h) (Or.inl ⟨by rfl, ?taq130⟩) (by assumption) ?tbq130
                    case taq130 =>
                      intro wS hSw
                      (try dsimp only at hSw)
                      go_simp
                      (try (with_reducible rfl))
                    (try simp only [List.getElem_toArray, List.getElem_cons_zero, List.getElem_cons_succ, Act.put, List.setIfInBounds_toArray, List.set_cons_zero, List.set_cons_succ])
                    refine' wpAnyH_take (i := 13) (v := _) rfl (by kernel_rfl) (by kernel_rfl) (by kernel_rfl) (fun _ _ _ h => h) (Or.inl ⟨by rfl, ?taq131⟩) (by assumption) ?tbq131
                    case taq131 =>
                      intro wS hSw
                      (try dsimp only at hSw)
                      go_simp
                      (try (with_reducible rfl))
                    (try simp only [List.getElem_toArray, List.getElem_cons_zero, List.getElem_cons_succ, Act.put, List.setIfInBounds_toArray, List.set_cons_zero, List.set_cons_succ])
                    refine' wpAnyH_take (i := 14) (v := _) rfl (by kernel_rfl) (by kernel_rfl) (by kernel_rfl) (fun _ _ _ h => h) (Or.inl ⟨by rfl, ?taq132⟩) (by assumption) ?tbq132
                    case taq132 =>
                      intro wS hSw
                      (try dsimp only at hSw)
                      go_simp
                      (try (with_reducible rfl))
                    (try simp only [List.getElem_toArray, List.getElem_cons_zero, List.getElem_cons_succ, Act.put, List.setIfInBounds_toArray, List.set_cons_zero, List.set_cons_succ])
                    refine' wpAnyH_take (i := 15) (v := _) rfl (by kernel_rfl) (by kernel_rfl) (by kernel_rfl) (fun _ _ _ h => h) (Or.inl ⟨by rfl, ?taq133⟩) (by assumption) ?tbq133
                    case taq133 =>
                      intro wS hSw
                      (try dsimp only at hSw)
                      go_simp
                      (try (with_reducible rfl))
                    (try simp only [List.getElem_toArray, List.getElem_cons_zero, List.getElem_cons_succ, Act.put, List.setIfInBounds_toArray, List.set_cons_zero, List.set_cons_succ])
                    refine' wpAnyH_take (i := 16) (v := _) rfl (by kernel_rfl) (by kernel_rfl) (by kernel_rfl) (fun _ _ _ h => h) (Or.inl ⟨by rfl, ?taq134⟩) (by assumption) ?tbq134
                    case taq134 =>
                      intro wS hSw
                      (try dsimp only at hSw)
                      go_simp
                      (try (with_reducible rfl))
                    (try simp only [List.getElem_toArray, List.getElem_cons_zero, List.getElem_cons_succ, Act.put, List.setIfInBounds_toArray, List.set_cons_zero, List.set_cons_succ])
                    refine wpAnyH_done (by kernel_rfl) ?_ _
                    go_wp2_with fail
                    go_ret
                    exact ⟨by rw [HF.out]; rfl, (below_drewN HBf.out n).drew⟩
                  | false =>
                    have hxe : x = y := by simpa using hxy
                    have HNX : Hid (ac.m.take (j + 1) = bc.m.take (j + 1)) := Lib.hid (take_ext32 HTJ.out (by rw [HXJ.out, HYJ.out, hxe]))
                    clear hxe
                    go_upto_region 11 with fail
                    refine wp_region_held_drew (S := ((fun w' => w'.cell? ⟨g, o + k * 7 + 3, none⟩ = some (.slice (some ⟨g7, o7, none⟩) ac.m.length a3) ∧ w'.cell? ⟨h, r + k * 7 + 3, none⟩ = some (.slice (some ⟨g8, o8, none⟩) bc.m.length b3) ∧ w'.cell? ⟨g7, o7 + j, none⟩ = some (.int .i32 x) ∧ w'.cell? ⟨g8, o8 + j, none⟩ = some (.int .i32 y)))) (by kernel_rfl) (⟨c3, d3, k7, k8⟩) (fun hHeld => ?_)
                    clear c3 d3 k7 k8
                    refine' wpAnyH_take (i := 0) (v := _) rfl (by kernel_rfl) (by kernel_rfl) (by kernel_rfl) (fun _ _ _ h => h) (Or.inl ⟨by rfl, ?taq135⟩) (by assumption) ?tbq135
                    case taq135 =>
                      intro wS hSw
                      (try dsimp only at hSw)
                      go_simp
                      (try (with_reducible rfl))
                    (try simp only [List.getElem_toArray, List.getElem_cons_zero, List.getElem_cons_succ, Act.put, List.setIfInBounds_toArray, List.set_cons_zero, List.set_cons_succ])
                    refine' wpAnyH_take (i := 1) (v := _) rfl (by kernel_rfl) (by kernel_rfl) (by kernel_rfl) (fun _ _ _ h => h) (Or.inl ⟨by rfl, ?taq136⟩) (by assumption) ?tbq136
                    case taq136 =>
                      intro wS hSw
                      (try dsimp only at hSw)
                      go_simp
                      (try (with_reducible rfl))
                    (try simp only [List.getElem_toArray, List.getElem_cons_zero, List.getElem_cons_succ, Act.put, List.setIfInBounds_toArray, List.set_cons_zero, List.set_cons_succ])
                    refine' wpAnyH_take (i := 2) (v := _) rfl (by kernel_rfl) (by kernel_rfl) (by kernel_rfl) (fun _ _ _ h => h) (Or.inl ⟨by rfl, ?taq137⟩) (by assumption) ?tbq137
                    case taq137 =>
                      intro wS hSw
                      (try dsimp only at hSw)
                      go_simp
                      (try (with_reducible rfl))
                    (try simp only [List.getElem_toArray, List.getElem_cons_zero, List.getElem_cons_succ, Act.put, List.setIfInBounds_toArray, List.set_cons_zero, List.set_cons_succ])
                    refine' wpAnyH_take (i := 3) (v := _) rfl (by kernel_rfl) (by kernel_rfl) (by kernel_rfl) (fun _ _ _ h => h) (Or.inl ⟨by rfl, ?taq138⟩) (by assumption) ?tbq138
                    case taq138 =>
                      intro wS hSw
                      (try dsimp only at hSw)
                      go_simp
                      (try (with_reducible rfl))
                    (try simp only [List.getElem_toArray, List.getElem_cons_zero, List.getElem_cons_succ, Act.put, List.setIfInBounds_toArray, List.set_cons_zero, List.set_cons_succ])
                    refine' wpAnyH_take (i := 4) (v := _) rfl (by kernel_rfl) (by kernel_rfl) (by kernel_rfl) (fun _ _ _ h => h) (Or.inl ⟨by rfl, ?taq139⟩) (by assumption) ?tbq139
                    case taq139 =>
                      intro wS hSw
                      (try dsimp only at hSw)
                      go_simp
                      (try (with_reducible rfl))
                    (try simp only [List.getElem_toArray, List.getElem_cons_zero, List.getElem_cons_succ, Act.put, List.setIfInBounds_toArray, List.set_cons_zero, List.set_cons_succ])
                    refine' wpAnyH_take (i := 5) (v := _) rfl (by kernel_rfl) (by kernel_rfl) (by kernel_rfl) (fun _ _ _ h => h) (Or.inl ⟨by rfl, ?taq140⟩) (by assumption) ?tbq140
                    case taq140 =>
                      intro wS hSw
                      (try dsimp only at hSw)
                      go_simp
                      (try (with_reducible rfl))
                    (try simp only [List.getElem_toArray, List.getElem_cons_zero, List.getElem_cons_succ, Act.put, List.setIfInBounds_toArray, List.set_cons_zero, List.set_cons_succ])
                    refine' wpAnyH_take (i := 6) (v := _) rfl (by kernel_rfl) (by kernel_rfl) (by kernel_rfl) (fun _ _ _ h => h) (Or.inl ⟨by rfl, ?taq141⟩) (by assumption) ?tbq141
                    case taq141 =>
                      intro wS hSw
                      (try dsimp only at hSw)
                      go_simp
                      (try (with_reducible rfl))
                    (try simp only [List.getElem_toArray, List.getElem_cons_zero, List.getElem_cons_succ, Act.put, List.setIfInBounds_toArray, List.set_cons_zero, List.set_cons_succ])
                    refine' wpAnyH_take (i := 7) (v := _) rfl (by kernel_rfl) (by kernel_rfl) (by kernel_rfl) (fun _ _ _ h => h) (Or.inl ⟨by rfl, ?taq142⟩) (by assumption) ?tbq142
                    case taq142 =>
                      intro wS hSw
                      (try dsimp only at hSw)
                      go_simp
                      (try (with_reducible rfl))
                    (try simp only [List.getElem_toArray, List.getElem_cons_zero, List.getElem_cons_succ, Act.put, List.setIfInBounds_toArray, List.set_cons_zero, List.set_cons_succ])
                    refine' wpAnyH_take (i := 8) (v := _) rfl (by kernel_rfl) (by kernel_rfl) (by kernel_rfl) (fun _ _ _ h => h) (Or.inl ⟨by rfl, ?taq143⟩) (by assumption) ?tbq143
                    case taq143 =>
                      intro wS hSw
                      (try dsimp only at hSw)
                      go_simp
                      (try (with_reducible rfl))
                    (try simp only [List.getElem_toArray, List.getElem_cons_zero, List.getElem_cons_succ, Act.put, List.setIfInBounds_toArray, List.set_cons_zero, List.set_cons_succ])
                    refine' wpAnyH_take (i := 9) (v := _) rfl (by kernel_rfl) (by kernel_rfl) (by kernel_rfl) (fun _ _ _ h => h) (Or.inl ⟨by rfl, ?taq144⟩) (by assumption) ?tbq144
                    case taq144 =>
                      intro wS hSw
                      (try dsimp only at hSw)
                      go_simp
                      (try (with_reducible rfl))
                    (try simp only [List.getElem_toArray, List.getElem_cons_zero, List.getElem_cons_succ, Act.put, List.setIfInBounds_toArray, List.set_cons_zero, List.set_cons_succ])
                    refine' wpAnyH_take (i := 10) (v := _) rfl (by kernel_rfl) (by kernel_rfl) (by kernel_rfl) (fun _ _ _ h => h) (Or.inl ⟨by rfl, ?taq145⟩) (by assumption) ?tbq145
                    case taq145 =>
                      intro wS hSw
                      (try dsimp only at hSw)
                      go_simp
                      (try (with_reducible rfl))
                    (try simp only [List.getElem_toArray, List.getElem_cons_zero, List.getElem_cons_succ, Act.put, List.setIfInBounds_toArray, List.set_cons_zero, List.set_cons_succ])
                    refine' wpAnyH_take (i := 11) (v := _) rfl (by kernel_rfl) (by kernel_rfl) (by kernel_rfl) (fun _ _ _ h => h) (Or.inl ⟨by rfl, ?taq146⟩) (by assumption) ?tbq146
                    case taq146 =>
                      intro wS hSw
                      (try dsimp only at hSw)
                      go_simp
                      (try (with_reducible rfl))
                    (try simp only [List.getElem_toArray, List.getElem_cons_zero, List.getElem_cons_succ, Act.put, List.setIfInBounds_toArray, List.set_cons_zero, List.set_cons_succ])
                    refine' wpAnyH_take (i := 12) (v := _) rfl (by kernel_rfl) (by kernel_rfl) (by kernel_rfl) (fun _ _ _ h => h) (Or.inl ⟨by rfl, ?taq147⟩) (by assumption) ?tbq147
                    case taq147 =>
                      intro wS hSw
                      (try dsimp only at hSw)
                      go_simp
                      (try (with_reducible rfl))
                    (try simp only [List.getElem_toArray, List.getElem_cons_zero, List.getElem_cons_succ, Act.put, List.setIfInBounds_toArray, List.set_cons_zero, List.set_cons_succ])
                    refine' wpAnyH_take (i := 13) (v := _) rfl (by kernel_rfl) (by kernel_rfl) (by kernel_rfl) (fun _ _ _ h => h) (Or.inl ⟨by rfl, ?taq148⟩) (by assumption) ?tbq148
                    case taq148 =>
                      intro wS hSw
                      (try dsimp only at hSw)
                      go_simp
                      (try (with_reducible rfl))
                    (try simp only [List.getElem_toArray, List.getElem_cons_zero, List.getElem_cons_succ, Act.put, List.setIfInBounds_toArray, List.set_cons_zero, List.set_cons_succ])
                    refine' wpAnyH_take (i := 14) (v := _) rfl (by kernel_rfl) (by kernel_rfl) (by kernel_rfl) (fun _ _ _ h => h) (Or.inl ⟨by rfl, ?taq149⟩) (by assumption) ?tbq149
                    case taq149 =>
                      intro wS hSw
                      (try dsimp only at hSw)
                      go_simp
                      (try (with_reducible rfl))
                    (try simp only [List.getElem_toArray, List.getElem_cons_zero, List.getElem_cons_succ, Act.put, List.setIfInBounds_toArray, List.set_cons_zero, List.set_cons_succ])
                    refine' wpAnyH_take (i := 15) (v := _) rfl (by kernel_rfl) (by kernel_rfl) (by kernel_rfl) (fun _ _ _ h => h) (Or.inl ⟨by rfl, ?taq150⟩) (by assumption) ?tbq150
                    case taq150 =>
                      intro wS hSw
                      (try dsimp only at hSw)
                      go_simp
                      (try (with_reducible rfl))
                    (try simp only [List.getElem_toArray, List.getElem_cons_zero, List.getElem_cons_succ, Act.put, List.setIfInBounds_toArray, List.set_cons_zero, List.set_cons_succ])
                    refine' wpAnyH_take (i := 16) (v := _) rfl (by kernel_rfl) (by kernel_rfl) (by kernel_rfl) (fun _ _ _ h => h) (Or.inl ⟨by rfl, ?taq151⟩) (by assumption) ?tbq151
                    case taq151 =>
                      intro wS hSw
                      (try dsimp only at hSw)
                      go_simp
                      (try (with_reducible rfl))
                    (try simp only [List.getElem_toArray, List.getElem_cons_zero, List.getElem_cons_succ, Act.put, List.setIfInBounds_toArray, List.set_cons_zero, List.set_cons_succ])
                    refine wpAnyH_done (by kernel_rfl) ?_ _
                    go_wp2_with fail
                    go_roundw
                    case rel => exact ⟨j + 1, n + 1, by omega, by go_num, rfl, HNX⟩
                    case measure => simp [intOf]; omega
                · obtain rfl : j = ac.m.length := by omega
                  have HNK : Hid ((ps.map (·.c)).take (k + 1) = (qs.map (·.c)).take (k + 1)) := Lib.hid (by
                    have h1 := HTJ.out
                    rw [List.take_length, HML.out, List.take_length] at h1
                    have h2 : sameC ac bc = true := by rw [sameC_B, HS1.out, HS2.out, h1]; simp
                    have h3 := sameC_eq.1 h2
                    rw [List.take_add_one, List.take_add_one, HTK.out, HX1.out, HX2.out, h3])
                  clear hjl
                  go_wp2_with fail
                  go_roundw
                  case rel => exact ⟨k + 1, by omega, by go_num, HNK, Lib.hid (below_drewN HBf.out n)⟩
                  case measure => simp [intOf]; omega
            · have tm : ((ac.m.length : Int) != (bc.m.length : Int)) = true := by rw [bne_iff_ne]; omega
              refine' wpAnyH_take (i := 27) (v := _) rfl (by kernel_rfl) (by kernel_rfl) (by kernel_rfl) (fun _ _ _ h => h) (Or.inl ⟨by rfl, ?taq152⟩) (by assumption) ?tbq152
              case taq152 =>
                intro wS hSw
                (try dsimp only at hSw)
                go_simp
                (try (with_reducible rfl))
              (try simp only [List.getElem_toArray, List.getElem_cons_zero, List.getElem_cons_succ, Act.put, List.setIfInBounds_toArray, List.set_cons_zero, List.set_cons_succ])
              refine' wpAnyH_take (i := 28) (v := _) rfl (by kernel_rfl) (by kernel_rfl) (by kernel_rfl) (fun _ _ _ h => h) (Or.inl ⟨by rfl, ?taq153⟩) (by assumption) ?tbq153
              case taq153 =>
                intro wS hSw
                (try dsimp only at hSw)
                go_simp
                (try (with_reducible rfl))
              (try simp only [List.getElem_toArray, List.getElem_cons_zero, List.getElem_cons_succ, Act.put, List.setIfInBounds_toArray, List.set_cons_zero, List.set_cons_succ])
              refine' wpAnyH_take (i := 29) (v := _) rfl (by kernel_rfl) (by kernel_rfl) (by kernel_rfl) (fun _ _ _ h => h) (Or.inl ⟨by rfl, ?taq154⟩) (by assumption) ?tbq154
              case taq154 =>
                intro wS hSw
                (try dsimp only at hSw)
                go_simp
                (try (with_reducible rfl))
              (try simp only [List.getElem_toArray, List.getElem_cons_zero, List.getElem_cons_succ, Act.put, List.setIfInBounds_toArray, List.set_cons_zero, List.set_cons_succ])
              refine' wpAnyH_take (i := 30) (v := _) rfl (by kernel_rfl) (by kernel_rfl) (by kernel_rfl) (fun _ _ _ h => h) (Or.inl ⟨by rfl, ?taq155⟩) (by assumption) ?tbq155
              case taq155 =>
                intro wS hSw
                (try dsimp only at hSw)
                go_simp
                (try (with_reducible rfl))
              (try simp only [List.getElem_toArray, List.getElem_cons_zero, List.getElem_cons_succ, Act.put, List.setIfInBounds_toArray, List.set_cons_zero, List.set_cons_succ])
              refine' wpAnyH_take (i := 31) (v := _) rfl (by kernel_rfl) (by kernel_rfl) (by kernel_rfl) (fun _ _ _ h => h) (Or.inl ⟨by rfl, ?taq156⟩) (by assumption) ?tbq156
              case taq156 =>
                intro wS hSw
                (try dsimp only at hSw)
                go_simp
                (try (with_reducible rfl))
              (try simp only [List.getElem_toArray, List.getElem_cons_zero, List.getElem_cons_succ, Act.put, List.setIfInBounds_toArray, List.set_cons_zero, List.set_cons_succ])
              refine' wpAnyH_take (i := 32) (v := _) rfl (by kernel_rfl) (by kernel_rfl) (by kernel_rfl) (fun _ _ _ h => h) (Or.inl ⟨by rfl, ?taq157⟩) (by assumption) ?tbq157
              case taq157 =>
                intro wS hSw
                (try dsimp only at hSw)
                go_simp
                (try (with_reducible rfl))
              (try simp only [List.getElem_toArray, List.getElem_cons_zero, List.getElem_cons_succ, Act.put, List.setIfInBounds_toArray, List.set_cons_zero, List.set_cons_succ])
              refine' wpAnyH_take (i := 33) (v := _) rfl (by kernel_rfl) (by kernel_rfl) (by kernel_rfl) (fun _ _ _ h => h) (Or.inl ⟨by rfl, ?taq158⟩) (by assumption) ?tbq158
              case taq158 =>
                intro wS hSw
                (try dsimp only at hSw)
                go_simp
                (try (with_reducible rfl))
              (try simp only [List.getElem_toArray, List.getElem_cons_zero, List.getElem_cons_succ, Act.put, List.setIfInBounds_toArray, List.set_cons_zero, List.set_cons_succ])
              refine' wpAnyH_take (i := 34) (v := _) rfl (by kernel_rfl) (by kernel_rfl) (by kernel_rfl) (fun _ _ _ h => h) (Or.inl ⟨by rfl, ?taq159⟩) (by assumption) ?tbq159
              case taq159 =>
                intro wS hSw
                (try dsimp only at hSw)
                go_simp
                (try (with_reducible rfl))
              (try simp only [List.getElem_toArray, List.getElem_cons_zero, List.getElem_cons_succ, Act.put, List.setIfInBounds_toArray, List.set_cons_zero, List.set_cons_succ])
              refine' wpAnyH_take (i := 35) (v := _) rfl (by kernel_rfl) (by kernel_rfl) (by kernel_rfl) (fun _ _ _ h => h) (Or.inl ⟨by rfl, ?taq160⟩) (by assumption) ?tbq160
              case taq160 =>
                intro wS hSw
                (try dsimp only at hSw)
                go_simp
                (try (with_reducible rfl))
              (try simp only [List.getElem_toArray, List.getElem_cons_zero, List.getElem_cons_succ, Act.put, List.setIfInBounds_toArray, List.set_cons_zero, List.set_cons_succ])
              refine' wpAnyH_take (i := 36) (v := _) rfl (by kernel_rfl) (by kernel_rfl) (by kernel_rfl) (fun _ _ _ h => h) (Or.inl ⟨by rfl, ?taq161⟩) (by assumption) ?tbq161
              case taq161 =>
                intro wS hSw
                (try dsimp only at hSw)
                go_simp
                (try (with_reducible rfl))
              (try simp only [List.getElem_toArray, List.getElem_cons_zero, List.getElem_cons_succ, Act.put, List.setIfInBounds_toArray, List.set_cons_zero, List.set_cons_succ])
              refine' wpAnyH_take (i := 37) (v := _) rfl (by kernel_rfl) (by kernel_rfl) (by kernel_rfl) (fun _ _ _ h => h) (Or.inl ⟨by rfl, ?taq162⟩) (by assumption) ?tbq162
              case taq162 =>
                intro wS hSw
                (try dsimp only at hSw)
                go_simp
                (try (with_reducible rfl))
              (try simp only [List.getElem_toArray, List.getElem_cons_zero, List.getElem_cons_succ, Act.put, List.setIfInBounds_toArray, List.set_cons_zero, List.set_cons_succ])
              refine' wpAnyH_take (i := 38) (v := _) rfl (by kernel_rfl) (by kernel_rfl) (by kernel_rfl) (fun _ _ _ h => h) (Or.inl ⟨by rfl, ?taq163⟩) (by assumption) ?tbq163
              case taq163 =>
                intro wS hSw
                (try dsimp only at hSw)
                go_simp
                (try (with_reducible rfl))
              (try simp only [List.getElem_toArray, List.getElem_cons_zero, List.getElem_cons_succ, Act.put, List.setIfInBounds_toArray, List.set_cons_zero, List.set_cons_succ])
              refine' wpAnyH_take (i := 39) (v := _) rfl (by kernel_rfl) (by kernel_rfl) (by kernel_rfl) (fun _ _ _ h => h) (Or.inl ⟨by rfl, ?taq164⟩) (by assumption) ?tbq164
              case taq164 =>
                intro wS hSw
                (try dsimp only at hSw)
                go_simp
                (try (with_reducible rfl))
              (try simp only [List.getElem_toArray, List.getElem_cons_zero, List.getElem_cons_succ, Act.put, List.setIfInBounds_toArray, List.set_cons_zero, List.set_cons_succ])
              refine' wpAnyH_take (i := 40) (v := _) rfl (by kernel_rfl) (by kernel_rfl) (by kernel_rfl) (fun _ _ _ h => h) (Or.inl ⟨by rfl, ?taq165⟩) (by assumption) ?tbq165
              case taq165 =>
                intro wS hSw
                (try dsimp only at hSw)
                go_simp
                (try (with_reducible rfl))
              (try simp only [List.getElem_toArray, List.getElem_cons_zero, List.getElem_cons_succ, Act.put, List.setIfInBounds_toArray, List.set_cons_zero, List.set_cons_succ])
              refine wpAnyH_done (by kernel_rfl) ?_ _
              have HF := Lib.hid (HNO.out (by
                rw [sameC_B, HS1.out, HS2.out]
                show (ac.m == bc.m) = false
                rw [beq_eq_false_iff_ne]
                intro e
                exact hml (by rw [e])))
              clear hHeld9 hHf tm
              go_wp2_with fail
              go_ret
              exact ⟨by rw [HF.out]; rfl, HBf.out⟩
      · obtain rfl : k = ps.length := by omega
        have HT : Hid (res = true) := Lib.hid (by
          have h1 := HTK.out
          rw [List.take_of_length_le (by simp), List.take_of_length_le (by simp [HL.out])] at h1
          rw [← HRES.out, h1]
          exact sameCs_refl _)
        clear hlt
        go_wp2_with fail
        go_ret
        exact ⟨by rw [HT.out]; rfl, HBR.out⟩
  · have t0 : ((ps.length : Int) != (qs.length : Int)) = true := by rw [bne_iff_ne]; omega
    have HF : Hid (res = false) := Lib.hid (by rw [← HRES.out]; exact sameCs_len (by simpa using hl))
    clear hl
    go_enter Try.func15, Try.ntmps15
    go_wp2_with fail
    go_ret
    exact ⟨by rw [HF.out]; rfl, Below.refl _ _⟩
end Go.Proofs.Ytcjpibdgnjncmaa
