/- Contract of add.Add. -/
import Derived.Test.YthdahnjghpiheaaAccP
import Derived.Test.YthdahnjghpiheaaBack2
import Derived.Deep.RegionHeld3
import Derived.Deep.DrawnRows
import Derived.Laws.Small
import Derived.Deep.DeepCutAuto
namespace Go.Proofs.Ythdahnjghpiheaa
open Go.RowKit
set_option linter.unusedVariables false

theorem run_max_keep {P : Program} {w : World} (ts : Array TypeId) (t : TypeId) (x y : Int) : (Builtin.max_ ts t #[.int .i64 x, .int .i64 y]).run P w = .ok (.int .i64 (max x y)) w := by
  rw [run_max_int2]
  congr 2
  omega
theorem run_min_keep {P : Program} {w : World} (ts : Array TypeId) (t : TypeId) (x y : Int) : (Builtin.min_ ts t #[.int .i64 x, .int .i64 y]).run P w = .ok (.int .i64 (min x y)) w := by
  rw [run_min_int2]
  congr 2
  omega
attribute [local go_sem high] run_max_keep run_min_keep

theorem add_no {w w3 : World} {D : List Int} {E : Int} {X : List Int} {err e : Int} {b : Nat} (hb : Below w.heap.size w w3) (hbe : w.heap.size = b) (hk : b + 2 < w3.heap.size) (hD : D = []) (hE : E = 0) (hX : X = []) (he : err = e) (u0 u1 u2 : Value) :
    FormA w D E X err (.returned (.tuple #[.agg #[.slice none 0 0, .int .i64 0, .slice none 0 0], .int .i64 e])) (((w3.setCell ⟨b + 2, 0, none⟩ u0).setCell ⟨b + 2, 1, none⟩ u1).setCell ⟨b + 2, 2, none⟩ u2) := by
  subst hD hE hX he
  exact ⟨_, _, _, _, rfl, IsA.zero _ _, hb.trans ((off_set3 w3 (b + 2) _ _ _).below (by have := hb.size; omega) (fun i hi => by omega))⟩

set_option maxHeartbeats 8000000 in
set_option maxRecDepth 100000 in
theorem add_any (gd : List Int) (ge : Int) (gx xd : List Int) (xe : Int) (xx : List Int) (gv gw xv xw : Value) (w : World) (B : Nat) (hB : B ≤ w.heap.size) (h : IsT w B gv gw gd ge gx) (h' : IsT w B xv xw xd xe xx) (D : List Int) (E : Int) (X : List Int) (err : Int)
    (hD : (if addErr gd ge gx xd xe xx = 0 then gd else []) = D) (hE : (if addErr gd ge gx xd xe xx = 0 then addE ge xe else 0) = E) (hX : (if addErr gd ge gx xd xe xx = 0 then addI ge xe gx xx else []) = X) (he : addErr gd ge gx xd xe xx = err) :
    Calls Try.prog 21 #[.agg #[gv, .int .i64 ge, gw], .agg #[xv, .int .i64 xe, xw]] w (FormA w D E X err) := by
  obtain ⟨A, c, rfl, _, _⟩ := h.d.form
  obtain ⟨A', c', rfl, _, _⟩ := h.x.form
  obtain ⟨A2, c2, rfl, _, _⟩ := h'.d.form
  obtain ⟨A2', c2', rfl, _, _⟩ := h'.x.form
  simp only [length_ints] at *
  have hb0 := three_alloc0 w (.cells #[.slice A gd.length c, .int .i64 ge, .slice A' gx.length c'] 25) (.cells #[.slice A2 xd.length c2, .int .i64 xe, .slice A2' xx.length c2'] 25) (.cells #[.slice none 0 0, .int .i64 0, .slice none 0 0] 39)
  have TG := Lib.hid (h.below (hb0.mono hB))
  have TX := Lib.hid (h'.below (hb0.mono hB))
  have BB := Lib.hid hb0
  have KG := Lib.hid (((Blk.fresh w 25 [.slice A gd.length c, .int .i64 ge, .slice A' gx.length c']).alloc (.cells #[.slice A2 xd.length c2, .int .i64 xe, .slice A2' xx.length c2'] 25)).alloc (.cells #[.slice none 0 0, .int .i64 0, .slice none 0 0] 39))
  have kx := (Blk.fresh (w.alloc (.cells #[.slice A gd.length c, .int .i64 ge, .slice A' gx.length c'] 25)) 25 [.slice A2 xd.length c2, .int .i64 xe, .slice A2' xx.length c2']).alloc (.cells #[.slice none 0 0, .int .i64 0, .slice none 0 0] 39)
  have kr := Blk.fresh ((w.alloc (.cells #[.slice A gd.length c, .int .i64 ge, .slice A' gx.length c'] 25)).alloc (.cells #[.slice A2 xd.length c2, .int .i64 xe, .slice A2' xx.length c2'] 25)) 39 [.slice none 0 0, .int .i64 0, .slice none 0 0]
  simp only [World.size_alloc] at kx kr
  have KX := Lib.hid kx
  have KR := Lib.hid kr
  have HDE := Lib.hid hD
  have HEE := Lib.hid hE
  have HXE := Lib.hid hX
  have HER := Lib.hid he
  have TG0 := Lib.hid h
  have TX0 := Lib.hid h'
  clear hb0 h h' kx kr hD hE hX he
  obtain ⟨mg, hmg⟩ : ∃ m, mayB gd ge gx = m := ⟨_, rfl⟩
  obtain ⟨mx, hmx⟩ : ∃ m, mayB xd xe xx = m := ⟨_, rfl⟩
  have HMG := Lib.hid hmg
  have HMX := Lib.hid hmx
  go_enter Try.func21, Try.ntmps21
  go_wp2_with fail
  generalize (((w.alloc (.cells #[.slice A gd.length c, .int .i64 ge, .slice A' gx.length c'] 25)).alloc (.cells #[.slice A2 xd.length c2, .int .i64 xe, .slice A2' xx.length c2'] 25)).alloc (.cells #[.slice none 0 0, .int .i64 0, .slice none 0 0] 39)) = w1 at TG TX BB KG KX KR ⊢
  have hM := tmay_any gd ge gx _ _ w1 B (Nat.le_trans hB BB.out.size) TG.out
  rw [hmg] at hM
  clear hmg
  refine hM.mono ?_
  rintro e w3 ⟨rfl, hb3⟩
  have hsb := BB.out.size
  have hs3 := hb3.size
  have TG := Lib.hid (TG.out.below (hb3.mono (by omega)))
  have TX := Lib.hid (TX.out.below (hb3.mono (by omega)))
  have BB := Lib.hid (BB.out.trans (hb3.mono (by omega)))
  have KG := Lib.hid (KG.out.below hb3 KG.out.lt)
  have KX := Lib.hid (KX.out.below hb3 KX.out.lt)
  have KR := Lib.hid (KR.out.below hb3 KR.out.lt)
  clear hM hb3
  obtain ⟨b, hb⟩ : ∃ b, w.heap.size = b := ⟨_, rfl⟩
  simp only [hb, Nat.add_assoc, Nat.reduceAdd] at KG KX KR ⊢
  have HBE := Lib.hid hb
  have s0 : w3.cell? ⟨b + 1, 0, none⟩ = some (.slice A2 xd.length c2) := KX.out.cell 0
  have s1 : w3.cell? ⟨b + 1, 1, none⟩ = some (.int .i64 xe) := KX.out.cell 1
  have s2 : w3.cell? ⟨b + 1, 2, none⟩ = some (.slice A2' xx.length c2') := KX.out.cell 2
  clear hb
  cases mg with
  | false =>
    have hne : addErr gd ge gx xd xe xx = 1 := by unfold addErr; rw [if_neg (fun h => by have := HMG.out; rw [h.1] at this; cases this)]
    have r0 : w3.cell? ⟨b + 2, 0, none⟩ = some (.slice none 0 0) := KR.out.cell 0
    have r1 : w3.cell? ⟨b + 2, 1, none⟩ = some (.int .i64 0) := KR.out.cell 1
    have r2 : w3.cell? ⟨b + 2, 2, none⟩ = some (.slice none 0 0) := KR.out.cell 2
    have f0 := KR.out.free 0
    have f1 := KR.out.free 1
    have f2 := KR.out.free 2
    have HNE := Lib.hid hne
    clear hne hmx
    go_wp2
    refine bodyPost_ret (v := .tuple #[.agg #[.slice none 0 0, .int .i64 0, .slice none 0 0], .int .i64 1]) (by simp [results, Try.results21, go_sem, r0, r1, r2]) rfl ?_
    exact add_no BB.out HBE.out KR.out.lt (by rw [← HDE.out, HNE.out]; rfl) (by rw [← HEE.out, HNE.out]; rfl) (by rw [← HXE.out, HNE.out]; rfl) (by rw [← HER.out, HNE.out]) _ _ _
  | true =>
    go_wp2_with fail
    clear s0 s1 s2
    have hM := tmay_any xd xe xx _ _ w3 B (by omega) TX.out
    rw [hmx] at hM
    clear hmx
    refine hM.mono ?_
    rintro e w4 ⟨rfl, hb4⟩
    have hs4 := hb4.size
    have TG := Lib.hid (TG.out.below (hb4.mono (by omega)))
    have TX := Lib.hid (TX.out.below (hb4.mono (by omega)))
    have BB := Lib.hid (BB.out.trans (hb4.mono (by omega)))
    have KG := Lib.hid (KG.out.below hb4 KG.out.lt)
    have KX := Lib.hid (KX.out.below hb4 KX.out.lt)
    have KR := Lib.hid (KR.out.below hb4 KR.out.lt)
    have s0 : w4.cell? ⟨b + 1, 0, none⟩ = some (.slice A2 xd.length c2) := KX.out.cell 0
    have s1 : w4.cell? ⟨b + 1, 1, none⟩ = some (.int .i64 xe) := KX.out.cell 1
    have s2 : w4.cell? ⟨b + 1, 2, none⟩ = some (.slice A2' xx.length c2') := KX.out.cell 2
    have t0 : w4.cell? ⟨b, 0, none⟩ = some (.slice A gd.length c) := KG.out.cell 0
    have t1 : w4.cell? ⟨b, 1, none⟩ = some (.int .i64 ge) := KG.out.cell 1
    have t2 : w4.cell? ⟨b, 2, none⟩ = some (.slice A' gx.length c') := KG.out.cell 2
    have r0 : w4.cell? ⟨b + 2, 0, none⟩ = some (.slice none 0 0) := KR.out.cell 0
    have r1 : w4.cell? ⟨b + 2, 1, none⟩ = some (.int .i64 0) := KR.out.cell 1
    have r2 : w4.cell? ⟨b + 2, 2, none⟩ = some (.slice none 0 0) := KR.out.cell 2
    have f0 := KR.out.free 0
    have f1 := KR.out.free 1
    have f2 := KR.out.free 2
    clear hM hb4
    cases mx with
    | false =>
      have hne : addErr gd ge gx xd xe xx = 1 := by unfold addErr; rw [if_neg (fun h => by have := HMX.out; rw [h.2] at this; cases this)]
      have HNE := Lib.hid hne
      clear hne
      go_wp2
      refine bodyPost_ret (v := .tuple #[.agg #[.slice none 0 0, .int .i64 0, .slice none 0 0], .int .i64 1]) (by simp [results, Try.results21, go_sem, r0, r1, r2]) rfl ?_
      exact add_no BB.out HBE.out KR.out.lt (by rw [← HDE.out, HNE.out]; rfl) (by rw [← HEE.out, HNE.out]; rfl) (by rw [← HXE.out, HNE.out]; rfl) (by rw [← HER.out, HNE.out]) _ _ _
    | true =>
      go_wp2_with fail
      obtain ⟨sm, hsm⟩ : ∃ m, (gd == xd) = m := ⟨_, rfl⟩
      have hS := same_any gd xd _ _ w4 _ _ TG.out.d TX.out.d
      rw [hsm] at hS
      have HSM := Lib.hid hsm
      clear hsm
      refine hS.mono ?_
      rintro e w5 hq
      obtain ⟨rfl, m, rfl⟩ := hq
      clear hS
      have s0 : (w4.drewN m).cell? ⟨b + 1, 0, none⟩ = some (.slice A2 xd.length c2) := s0
      have s1 : (w4.drewN m).cell? ⟨b + 1, 1, none⟩ = some (.int .i64 xe) := s1
      have s2 : (w4.drewN m).cell? ⟨b + 1, 2, none⟩ = some (.slice A2' xx.length c2') := s2
      have t0 : (w4.drewN m).cell? ⟨b, 0, none⟩ = some (.slice A gd.length c) := t0
      have t1 : (w4.drewN m).cell? ⟨b, 1, none⟩ = some (.int .i64 ge) := t1
      have t2 : (w4.drewN m).cell? ⟨b, 2, none⟩ = some (.slice A' gx.length c') := t2
      have r0 : (w4.drewN m).cell? ⟨b + 2, 0, none⟩ = some (.slice none 0 0) := r0
      have r1 : (w4.drewN m).cell? ⟨b + 2, 1, none⟩ = some (.int .i64 0) := r1
      have r2 : (w4.drewN m).cell? ⟨b + 2, 2, none⟩ = some (.slice none 0 0) := r2
      have f0 : (w4.drewN m).frozen? ⟨b + 2, 0, none⟩ = false := f0
      have f1 : (w4.drewN m).frozen? ⟨b + 2, 1, none⟩ = false := f1
      have f2 : (w4.drewN m).frozen? ⟨b + 2, 2, none⟩ = false := f2
      have TG : Hid (IsT (w4.drewN m) B _ _ _ _ _) := Lib.hid (TG.out.below (below_drewN (Below.refl _ _) _))
      have TX : Hid (IsT (w4.drewN m) B _ _ _ _ _) := Lib.hid (TX.out.below (below_drewN (Below.refl _ _) _))
      have BB := Lib.hid (below_drewN BB.out m)
      have KG := Lib.hid (KG.out.drewN m)
      have KX := Lib.hid (KX.out.drewN m)
      have KR := Lib.hid (KR.out.drewN m)
      have hs5 : w4.heap.size = (w4.drewN m).heap.size := rfl
      generalize w4.drewN m = w6 at *
      cases sm with
      | false =>
        have hne : addErr gd ge gx xd xe xx = 2 := by unfold addErr; rw [if_pos ⟨HMG.out, HMX.out⟩, if_neg (by have := HSM.out; simpa using this)]
        have HNE := Lib.hid hne
        clear hne
        go_wp2
        refine bodyPost_ret (v := .tuple #[.agg #[.slice none 0 0, .int .i64 0, .slice none 0 0], .int .i64 2]) (by simp [results, Try.results21, go_sem, r0, r1, r2]) rfl ?_
        exact add_no BB.out HBE.out KR.out.lt (by rw [← HDE.out, HNE.out]; rfl) (by rw [← HEE.out, HNE.out]; rfl) (by rw [← HXE.out, HNE.out]; rfl) (by rw [← HER.out, HNE.out]) _ _ _
      | true =>
        have hdd : gd = xd := by have := HSM.out; simpa using this
        have hne : addErr gd ge gx xd xe xx = 0 := by unfold addErr; rw [if_pos ⟨HMG.out, HMX.out⟩, if_pos hdd]
        have hlen : gx.length = xx.length := by
          have h1 := may_len HMG.out
          have h2 := may_len HMX.out
          rw [hdd] at h1
          omega
        have hex : ∀ {d : List Int} {e : Int} {x : List Int}, mayB d e x = true → -64 ≤ e ∧ e ≤ 64 := by
          intro d e x h
          unfold mayB at h
          simp only [Bool.and_eq_true, decide_eq_true_eq, beq_iff_eq] at h
          exact ⟨h.2.2.1, h.2.2.2.1⟩
        obtain ⟨g0, g1⟩ := hex HMG.out
        obtain ⟨p0, p1⟩ := hex HMX.out
        have hl1 := may_len HMG.out
        have hl2 := sizeI_bound gd
        have hl3 := may_dims HMG.out
        have ld : gd.length * 8 ≤ 140737488355328 := by omega
        have hgl : gx.length ≤ 8192 := by omega
        have HLEN := Lib.hid hlen
        have HDD := Lib.hid hdd
        have HNE := Lib.hid hne
        clear hdd hne hl1 hl2 hl3 hlen hex s0 s2 t2 r0 r1 r2 f0 f1 f2
        have hBW : B ≤ w6.heap.size := by omega
        have hn0 : ¬ b = w6.heap.size := by have := KG.out.lt; omega
        have hn1 : ¬ b + 1 = w6.heap.size := by have := KX.out.lt; omega
        have dd0 : w6.drew.cell? ⟨b, 0, none⟩ = some (.slice A gd.length c) := t0
        have dd1 : w6.drew.cell? ⟨b, 1, none⟩ = some (.int .i64 ge) := t1
        have dd2 : w6.drew.cell? ⟨b + 1, 1, none⟩ = some (.int .i64 xe) := s1
        have ee0 : (w6.alloc (.cells #[.slice none 0 0, .int .i64 0, .slice none 0 0] 39)).drew.cell? ⟨b, 0, none⟩ = some (.slice A gd.length c) := (KG.out.alloc _).cell 0
        have ee1 : (w6.alloc (.cells #[.slice none 0 0, .int .i64 0, .slice none 0 0] 39)).drew.cell? ⟨b, 1, none⟩ = some (.int .i64 ge) := (KG.out.alloc _).cell 1
        have ee2 : (w6.alloc (.cells #[.slice none 0 0, .int .i64 0, .slice none 0 0] 39)).drew.cell? ⟨b + 1, 1, none⟩ = some (.int .i64 xe) := (KX.out.alloc _).cell 1
        have HS3 : Hid (b + 3 ≤ w6.heap.size) := Lib.hid (by have := KR.out.lt; omega)
        have HMB := Lib.hid (Blk.freshA w6 39 #[.slice none 0 0, .int .i64 0, .slice none 0 0])
        have HBW := Lib.hid hBW
        have HBA : Hid (B ≤ w6.drew.heap.size) := Lib.hid hBW
        have HBB : Hid (B ≤ ((w6.alloc (.cells #[.slice none 0 0, .int .i64 0, .slice none 0 0] 39)).drew).heap.size) := Lib.hid (Nat.le_trans hBW (by simp))
        clear hs3 hs4 hs5 hsb
        go_upto_region 5 with fail
        go_cut [6] (fun s wx => ∃ (q B0 : Nat) (A6 : Option Addr) (c6 : Nat), s = .pointer (some ⟨q, 0, none⟩) ∧ AddI w b q B0 [.slice A gd.length c, .int .i64 ge, .slice A' gx.length c'] [.slice A2 xd.length c2, .int .i64 xe, .slice A2' xx.length c2'] (addE ge xe) (.slice A6 gd.length c6) gd (.slice none 0 0) [] wx)
        case first =>
          refine wp_region_held_drew (S := (fun w' => w'.cell? ⟨b, 0, none⟩ = some (.slice A gd.length c) ∧ w'.cell? ⟨b, 1, none⟩ = some (.int .i64 ge) ∧ w'.cell? ⟨b + 1, 1, none⟩ = some (.int .i64 xe))) (by kernel_rfl) ⟨dd0, dd1, dd2⟩ (fun hHeld => ?_)
          refine' wpAnyH_take (i := 0) (v := _) rfl (by kernel_rfl) (by kernel_rfl) (by kernel_rfl) (fun _ _ _ h => h) (Or.inl ⟨by rfl, ?ta0⟩) (by assumption) ?tb0
          case ta0 =>
            intro wS hSw
            (try dsimp only at hSw)
            go_simp
            (try (with_reducible rfl))
          (try simp only [List.getElem_toArray, List.getElem_cons_zero, Act.put, List.setIfInBounds_toArray, List.set_cons_zero, List.set_cons_succ])
          refine' wpAnyH_take (i := 1) (v := _) rfl (by kernel_rfl) (by kernel_rfl) (by kernel_rfl) (fun _ _ _ h => h) (Or.inl ⟨by rfl, ?ta1⟩) (by assumption) ?tb1
          case ta1 =>
            intro wS hSw
            (try dsimp only at hSw)
            go_simp
            (try (with_reducible rfl))
          (try simp only [List.getElem_toArray, List.getElem_cons_zero, List.getElem_cons_succ, Act.put, List.setIfInBounds_toArray, List.set_cons_zero, List.set_cons_succ])
          refine' wpAnyH_take (i := 3) (v := _) rfl (by kernel_rfl) (by kernel_rfl) (by kernel_rfl) (fun _ _ _ h => h) (Or.inl ⟨by rfl, ?ta3⟩) (by assumption) ?tb3
          case ta3 =>
            intro wS hSw
            (try dsimp only at hSw)
            go_simp
            (try (with_reducible rfl))
          (try simp only [List.getElem_toArray, List.getElem_cons_zero, List.getElem_cons_succ, Act.put, List.setIfInBounds_toArray, List.set_cons_zero, List.set_cons_succ])
          refine' wpAnyH_take (i := 4) (v := _) rfl (by kernel_rfl) (by kernel_rfl) (by kernel_rfl) (fun _ _ _ h => h) (Or.inl ⟨by rfl, ?ta4⟩) (by assumption) ?tb4
          case ta4 =>
            intro wS hSw
            (try dsimp only at hSw)
            go_simp
            (try (with_reducible rfl))
          (try simp only [List.getElem_toArray, List.getElem_cons_zero, List.getElem_cons_succ, Act.put, List.setIfInBounds_toArray, List.set_cons_zero, List.set_cons_succ])
          refine' wpAnyH_take (i := 5) (v := _) rfl (by kernel_rfl) (by kernel_rfl) (by kernel_rfl) (fun _ _ _ h => h) (Or.inl ⟨by rfl, ?ta5⟩) (by assumption) ?tb5
          case ta5 =>
            intro wS hSw
            (try dsimp only at hSw)
            go_simp
            (try (with_reducible rfl))
          (try simp only [List.getElem_toArray, List.getElem_cons_zero, List.getElem_cons_succ, Act.put, List.setIfInBounds_toArray, List.set_cons_zero, List.set_cons_succ])
          refine' wpAnyH_take (i := 6) (v := _) rfl (by kernel_rfl) (by kernel_rfl) (by kernel_rfl) (fun _ _ _ h => h) (Or.inl ⟨by rfl, ?ta6⟩) (by assumption) ?tb6
          case ta6 =>
            intro wS hSw
            (try dsimp only at hSw)
            go_simp
            (try (with_reducible rfl))
          (try simp only [List.getElem_toArray, List.getElem_cons_zero, List.getElem_cons_succ, Act.put, List.setIfInBounds_toArray, List.set_cons_zero, List.set_cons_succ])
          refine' wpAnyH_take (i := 8) (v := _) rfl (by kernel_rfl) (by kernel_rfl) (by kernel_rfl) (fun _ _ _ h => h) (Or.inl ⟨by rfl, ?ta8⟩) (by assumption) ?tb8
          case ta8 =>
            intro wS hSw
            (try dsimp only at hSw)
            go_simp
            (try (with_reducible rfl))
          (try simp only [List.getElem_toArray, List.getElem_cons_zero, List.getElem_cons_succ, Act.put, List.setIfInBounds_toArray, List.set_cons_zero, List.set_cons_succ])
          refine' wpAnyH_take (i := 9) (v := _) rfl (by kernel_rfl) (by kernel_rfl) (by kernel_rfl) (fun _ _ _ h => h) (Or.inl ⟨by rfl, ?ta9⟩) (by assumption) ?tb9
          case ta9 =>
            intro wS hSw
            (try dsimp only at hSw)
            go_simp
            (try (with_reducible rfl))
          (try simp only [List.getElem_toArray, List.getElem_cons_zero, List.getElem_cons_succ, Act.put, List.setIfInBounds_toArray, List.set_cons_zero, List.set_cons_succ])
          refine' wpAnyH_take (i := 10) (v := _) rfl (by kernel_rfl) (by kernel_rfl) (by kernel_rfl) (fun _ _ _ h => h) (Or.inl ⟨by rfl, ?ta10⟩) (by assumption) ?tb10
          case ta10 =>
            intro wS hSw
            (try dsimp only at hSw)
            go_simp
            (try (with_reducible rfl))
          (try simp only [List.getElem_toArray, List.getElem_cons_zero, List.getElem_cons_succ, Act.put, List.setIfInBounds_toArray, List.set_cons_zero, List.set_cons_succ])
          refine' wpAnyH_take (i := 11) (v := _) rfl (by kernel_rfl) (by kernel_rfl) (by kernel_rfl) (fun _ _ _ h => h) (Or.inl ⟨by rfl, ?ta11⟩) (by assumption) ?tb11
          case ta11 =>
            intro wS hSw
            (try dsimp only at hSw)
            go_simp
            (try (with_reducible rfl))
          (try simp only [List.getElem_toArray, List.getElem_cons_zero, List.getElem_cons_succ, Act.put, List.setIfInBounds_toArray, List.set_cons_zero, List.set_cons_succ])
          refine' wpAnyH_take (i := 7) (v := _) rfl (by kernel_rfl) (by kernel_rfl) (by kernel_rfl) (fun _ _ _ h => h) (Or.inl ⟨by rfl, ?ta7⟩) (by assumption) ?tb7
          case ta7 =>
            intro wS hSw
            (try dsimp only at hSw)
            go_simp
            (try (with_reducible rfl))
          (try simp only [List.getElem_toArray, List.getElem_cons_zero, List.getElem_cons_succ, Act.put, List.setIfInBounds_toArray, List.set_cons_zero, List.set_cons_succ])
          refine' wpAnyH_take (i := 12) (v := _) rfl (by kernel_rfl) (by kernel_rfl) (by kernel_rfl) (fun _ _ _ h => h) (Or.inl ⟨by rfl, ?ta12⟩) (by assumption) ?tb12
          case ta12 =>
            intro wS hSw
            (try dsimp only at hSw)
            go_simp
            (try (with_reducible rfl))
          (try simp only [List.getElem_toArray, List.getElem_cons_zero, List.getElem_cons_succ, Act.put, List.setIfInBounds_toArray, List.set_cons_zero, List.set_cons_succ])
          refine' wpAnyH_take (i := 13) (v := _) rfl (by kernel_rfl) (by kernel_rfl) (by kernel_rfl) (fun _ _ _ h => h) (Or.inl ⟨by rfl, ?ta13⟩) (by assumption) ?tb13
          case ta13 =>
            intro wS hSw
            (try dsimp only at hSw)
            go_simp
            (try (with_reducible rfl))
          (try simp only [List.getElem_toArray, List.getElem_cons_zero, List.getElem_cons_succ, Act.put, List.setIfInBounds_toArray, List.set_cons_zero, List.set_cons_succ])
          refine' wpAnyH_take (i := 14) (v := _) rfl (by kernel_rfl) (by kernel_rfl) (by kernel_rfl) (fun _ _ _ h => h) (Or.inl ⟨by rfl, ?ta14⟩) (by assumption) ?tb14
          case ta14 =>
            intro wS hSw
            (try dsimp only at hSw)
            go_simp
            (try (with_reducible rfl))
          (try simp only [List.getElem_toArray, List.getElem_cons_zero, List.getElem_cons_succ, Act.put, List.setIfInBounds_toArray, List.set_cons_zero, List.set_cons_succ])
          refine wpAnyH_ready (rs := [2, 16]) (by kernel_rfl) (by simp) ?_
          refine AllReadyH.cons rfl (fun K9 hK9 => ?_) (AllReadyH.cons rfl (fun K9 hK9 => ?_) AllReadyH.nil)
          · (try simp only [List.getElem_toArray, List.getElem_cons_zero, List.getElem_cons_succ])
            go_simp
            with_reducible refine (clone_int w6.drew B _ gd TG.out.d.drew HBA.out ld).mono ?_
            rintro e7 w7 ⟨A6, c6, rfl, hown6, hb6⟩
            have k5 := KG.out.drew.below hb6 KG.out.lt
            have k6 := KX.out.drew.below hb6 KX.out.lt
            have c50 : w7.cell? ⟨b, 0, none⟩ = some (.slice A gd.length c) := k5.cell 0
            have c51 : w7.cell? ⟨b, 1, none⟩ = some (.int .i64 ge) := k5.cell 1
            have c52 : w7.cell? ⟨b + 1, 1, none⟩ = some (.int .i64 xe) := k6.cell 1
            have HKG := Lib.hid k5
            have HKX := Lib.hid k6
            clear k5 k6
            have HO6 := Lib.hid hown6
            have HW6 := Lib.hid hb6
            clear hown6 hb6
            refine hK9.out _ _ ⟨c50, c51, c52⟩ (fun hHeld9 => ?_)
            clear hK9 K9
            (try simp only [List.getElem_toArray, List.getElem_cons_zero, List.getElem_cons_succ, Act.put, List.setIfInBounds_toArray, List.set_cons_zero, List.set_cons_succ])
            refine' wpAnyH_take (i := 15) (v := _) rfl (by kernel_rfl) (by kernel_rfl) (by kernel_rfl) (fun _ _ _ h => h) (Or.inl ⟨by rfl, ?tca⟩) (by assumption) ?tda
            case tca =>
              intro wS hSw
              (try dsimp only at hSw)
              go_simp
              (try (with_reducible rfl))
            (try simp only [List.getElem_toArray, List.getElem_cons_zero, List.getElem_cons_succ, Act.put, List.setIfInBounds_toArray, List.set_cons_zero, List.set_cons_succ])
            refine wpAnyH_ready (rs := [16]) (by kernel_rfl) (by simp) ?_
            refine AllReadyH.cons rfl (fun K9 hK9 => ?_) AllReadyH.nil
            (try simp only [List.getElem_toArray, List.getElem_cons_zero, List.getElem_cons_succ])
            go_simp
            refine hK9.out _ _ ⟨(HKG.out.alloc _).cell 0, (HKG.out.alloc _).cell 1, (HKX.out.alloc _).cell 1⟩ (fun hHeld9 => ?_)
            clear hK9 K9
            (try simp only [List.getElem_toArray, List.getElem_cons_zero, List.getElem_cons_succ, Act.put, List.setIfInBounds_toArray, List.set_cons_zero, List.set_cons_succ])
            refine wpAnyH_ready (rs := [17]) (by kernel_rfl) (by simp) ?_
            refine AllReadyH.cons rfl (fun K9 hK9 => ?_) AllReadyH.nil
            (try simp only [List.getElem_toArray, List.getElem_cons_zero, List.getElem_cons_succ])
            go_simp
            refine hK9.out _ _ ⟨(HKG.out.alloc _).cell 0, (HKG.out.alloc _).cell 1, (HKX.out.alloc _).cell 1⟩ (fun hHeld9 => ?_)
            clear hK9 K9
            (try simp only [List.getElem_toArray, List.getElem_cons_zero, List.getElem_cons_succ, Act.put, List.setIfInBounds_toArray, List.set_cons_zero, List.set_cons_succ])
            refine wpAnyH_done (by kernel_rfl) ?_ _
            have hwe : IntKind.i64.wrap (max ge xe - 12) = max ge xe - 12 := IntWalk.i64_in _ (by omega)
            go_wp2_with fail
            go_meet
            rw [hwe]
            have hst := AddI.start1 (exp := addE ge xe) HBE.out HS3.out KR.out (by rw [← HBE.out]; exact BB.out) HKG.out HKX.out HO6.out HW6.out
            unfold addE at hst ⊢
            exact ⟨_, _, _, _, rfl, hst⟩
          · (try simp only [List.getElem_toArray, List.getElem_cons_zero, List.getElem_cons_succ])
            go_simp
            refine hK9.out _ _ ⟨ee0, ee1, ee2⟩ (fun hHeld9 => ?_)
            clear hK9 K9
            (try simp only [List.getElem_toArray, List.getElem_cons_zero, List.getElem_cons_succ, Act.put, List.setIfInBounds_toArray, List.set_cons_zero, List.set_cons_succ])
            refine wpAnyH_ready (rs := [2]) (by kernel_rfl) (by simp) ?_
            refine AllReadyH.cons rfl (fun K9 hK9 => ?_) AllReadyH.nil
            (try simp only [List.getElem_toArray, List.getElem_cons_zero, List.getElem_cons_succ])
            go_simp
            with_reducible refine (clone_int ((w6.alloc (.cells #[.slice none 0 0, .int .i64 0, .slice none 0 0] 39)).drew) B _ gd ((TG.out.d.alloc (B := B) HBW.out _).drew) HBB.out ld).mono ?_
            rintro e7 w7 ⟨A6, c6, rfl, hown6, hb6⟩
            have k5 := (KG.out.alloc _).drew.below hb6 (KG.out.alloc _).lt
            have k6 := (KX.out.alloc _).drew.below hb6 (KX.out.alloc _).lt
            have c50 : w7.cell? ⟨b, 0, none⟩ = some (.slice A gd.length c) := k5.cell 0
            have c51 : w7.cell? ⟨b, 1, none⟩ = some (.int .i64 ge) := k5.cell 1
            have c52 : w7.cell? ⟨b + 1, 1, none⟩ = some (.int .i64 xe) := k6.cell 1
            have m5 := HMB.out.drew.below hb6 HMB.out.lt
            have z0 := m5.cell 0
            have z1 := m5.cell 1
            have z2 := m5.cell 2
            have y0 := m5.free 0
            have y1 := m5.free 1
            have y2 := m5.free 2
            have HKG := Lib.hid k5
            have HKX := Lib.hid k6
            have cc0 := Lib.hid (fun (u0 u1 u2 : Value) => ((off_set3 w7 w6.heap.size u0 u1 u2).cell (p := ⟨b, 0, none⟩) k5.lt hn0).trans c50)
            have cc1 := Lib.hid (fun (u0 u1 u2 : Value) => ((off_set3 w7 w6.heap.size u0 u1 u2).cell (p := ⟨b, 1, none⟩) k5.lt hn0).trans c51)
            have cc2 := Lib.hid (fun (u0 u1 u2 : Value) => ((off_set3 w7 w6.heap.size u0 u1 u2).cell (p := ⟨b + 1, 1, none⟩) k6.lt hn1).trans c52)
            have HM := Lib.hid m5
            clear k5 k6 m5
            have HO6 := Lib.hid hown6
            have HW6 := Lib.hid hb6
            clear hown6 hb6
            refine hK9.out _ _ ⟨c50, c51, c52⟩ (fun hHeld9 => ?_)
            clear hK9 K9
            (try simp only [List.getElem_toArray, List.getElem_cons_zero, List.getElem_cons_succ, Act.put, List.setIfInBounds_toArray, List.set_cons_zero, List.set_cons_succ])
            refine' wpAnyH_take (i := 15) (v := _) rfl (by kernel_rfl) (by kernel_rfl) (by kernel_rfl) (fun _ _ _ h => h) (Or.inl ⟨by rfl, ?tcb⟩) (by assumption) ?tdb
            case tcb =>
              intro wS hSw
              (try dsimp only at hSw)
              go_simp
              (try (with_reducible rfl))
            (try simp only [List.getElem_toArray, List.getElem_cons_zero, List.getElem_cons_succ, Act.put, List.setIfInBounds_toArray, List.set_cons_zero, List.set_cons_succ])
            refine wpAnyH_ready (rs := [17]) (by kernel_rfl) (by simp) ?_
            refine AllReadyH.cons rfl (fun K9 hK9 => ?_) AllReadyH.nil
            (try simp only [List.getElem_toArray, List.getElem_cons_zero, List.getElem_cons_succ])
            go_simp
            refine hK9.out _ _ ⟨cc0.out _ _ _, cc1.out _ _ _, cc2.out _ _ _⟩ (fun hHeld9 => ?_)
            clear hK9 K9
            (try simp only [List.getElem_toArray, List.getElem_cons_zero, List.getElem_cons_succ, Act.put, List.setIfInBounds_toArray, List.set_cons_zero, List.set_cons_succ])
            refine wpAnyH_done (by kernel_rfl) ?_ _
            have hwe : IntKind.i64.wrap (max ge xe - 12) = max ge xe - 12 := IntWalk.i64_in _ (by omega)
            go_wp2_with fail
            go_meet
            rw [hwe]
            have hst := AddI.start2 (exp := addE ge xe) _ HBE.out HS3.out KR.out (by rw [← HBE.out]; exact BB.out) HKG.out HKX.out HM.out HO6.out HW6.out
            unfold addE at hst ⊢
            exact ⟨_, _, _, _, rfl, hst⟩
        case rest =>
          obtain ⟨q, B0, A6, c6, rfl, hst⟩ := hcut
          have b2 : wc.cell? ⟨b, 2, none⟩ = some (.slice A' gx.length c') := hst.box.cell 2
          have HST := Lib.hid hst
          clear hst dd0 dd1 dd2 ee0 ee1 ee2 t0 t1 s1 hn0 hn1 TG TX BB KG KX KR HS3 HMB HBW HBA HBB
          obtain ⟨ys, hys⟩ : ∃ ys, addI ge xe gx xx = ys := ⟨_, rfl⟩
          obtain ⟨e, he⟩ : ∃ e, addE ge xe = e := ⟨_, rfl⟩
          rw [he] at HST
          have hyl : ys.length = gx.length := by rw [← hys]; exact addI_length ge xe gx xx HLEN.out
          have heb : -64 ≤ e ∧ e ≤ 64 ∧ ge - e ≤ 12 ∧ xe - e ≤ 12 := by rw [← he]; unfold addE; omega
          have hyb := addI_in ge xe gx xx TG0.out.xb.out TX0.out.xb.out
          rw [hys] at hyb
          have HYB := Lib.hid hyb
          have HYS := Lib.hid hys
          have HE := Lib.hid he
          have HYL := Lib.hid hyl
          obtain ⟨eb0, eb1, eb2, eb3⟩ := heb
          clear hys he hyl hyb
          go_wp2_with fail
          go_loopw [46] (fun i wr => ∃ (k : Nat) (u : Value), k ≤ gx.length ∧ i = .int .i64 k ∧ AddI w b q B0 [.slice A gd.length c, .int .i64 ge, .slice A' gx.length c'] [.slice A2 xd.length c2, .int .i64 xe, .slice A2' xx.length c2'] e (.slice A6 gd.length c6) gd u (ys.take k) wr) (fun i _ => gx.length - (intOf i).toNat)
          case atStart => exact ⟨0, _, by omega, rfl, by simpa using HST.out⟩
          case round =>
            obtain ⟨k, u, hk, rfl, hwr⟩ := hrel
            by_cases hlt : k < gx.length
            · have hlen := HLEN.out
              obtain ⟨x1, hx1⟩ : ∃ x1, gx[k]? = some x1 := ⟨gx[k], List.getElem?_eq_getElem (by omega)⟩
              obtain ⟨y1, hy1⟩ : ∃ y1, xx[k]? = some y1 := ⟨xx[k]'(by omega), List.getElem?_eq_getElem (by omega)⟩
              have hyk := addI_at ge xe gx xx k x1 y1 hx1 hy1
              rw [HYS.out, HE.out] at hyk
              have hxb := TG0.out.xb.out x1 (List.mem_of_getElem? hx1)
              have hyb := TX0.out.xb.out y1 (List.mem_of_getElem? hy1)
              have ha1 := align_in (v := x1) (b := ge - e) eb2 hxb.1 hxb.2
              have ha2 := align_in (v := y1) (b := xe - e) eb3 hyb.1 hyb.2
              have HA1 : Hid (∀ W : World, Calls Try.prog 41 #[.int .i64 x1, .int .i64 ge, .int .i64 e] W fun en w' => en = .returned (.int .i64 (alignI x1 (ge - e))) ∧ W = w') := Lib.hid (fun W => align_any x1 ge e W hxb.1 hxb.2 g0 g1 (by omega) (by omega) eb2)
              have HA2 : Hid (∀ W : World, Calls Try.prog 41 #[.int .i64 y1, .int .i64 xe, .int .i64 e] W fun en w' => en = .returned (.int .i64 (alignI y1 (xe - e))) ∧ W = w') := Lib.hid (fun W => align_any y1 xe e W hyb.1 hyb.2 p0 p1 (by omega) (by omega) eb3)
              generalize alignI x1 (ge - e) = r1 at ha1 HA1 hyk
              generalize alignI y1 (xe - e) = r2 at ha2 HA2 hyk
              obtain ⟨xb0, xb1⟩ := hxb
              obtain ⟨yb0, yb1⟩ := hyb
              obtain ⟨ra0, ra1⟩ := ha1
              obtain ⟨rb0, rb1⟩ := ha2
              have hnx : ys.take (k + 1) = ys.take k ++ [r1 + r2] := by rw [List.take_add_one, hyk]; rfl
              have hlen1 : (ys.take k).length + 1 ≤ 8192 := by rw [List.length_take]; have := HYL.out; omega
              generalize ys.take k = zs at hnx hwr hlen1
              have hxr := (TG0.out.below (hwr.bel.mono (by have := HBE.out; omega))).x
              have hyr := (TX0.out.below (hwr.bel.mono (by have := HBE.out; omega))).x
              obtain ⟨AA, n1, cc, hva, hn, hcc, hmm, ha⟩ := hxr
              injection hva with q1 q2 q3
              subst q1 q2 q3
              obtain ⟨AA', n1', cc', hva', hn', hcc', hmm', ha'⟩ := hyr
              injection hva' with q1 q2 q3
              subst q1 q2 q3
              obtain ⟨g, o, rfl, hg, hx⟩ := ha.out (by omega)
              obtain ⟨g', o', rfl, hg', hy⟩ := ha'.out (by omega)
              have z1 := hx k (.int .i8 x1) (by rw [ints, List.getElem?_map, hx1]; rfl)
              have z2 := hy k (.int .i8 y1) (by rw [ints, List.getElem?_map, hy1]; rfl)
              have i1 : (0 : Int) ≤ (k : Int) := by omega
              have i2 : (k : Int) < (gx.length : Int) := by omega
              have i2' : (k : Int) < (xx.length : Int) := by omega
              have i3 : (k : Int) ≤ 9223372036854775807 := by omega
              have c0 : wr.cell? ⟨b, 1, none⟩ = some (.int .i64 ge) := hwr.box.cell 1
              have c1 : wr.cell? ⟨b, 2, none⟩ = some (.slice (some ⟨g, o, none⟩) gx.length c') := hwr.box.cell 2
              have c3 : wr.cell? ⟨b + 1, 1, none⟩ = some (.int .i64 xe) := hwr.box2.cell 1
              have c4 : wr.cell? ⟨b + 1, 2, none⟩ = some (.slice (some ⟨g', o', none⟩) xx.length c2') := hwr.box2.cell 2
              have c5 : wr.cell? ⟨q, 1, none⟩ = some (.int .i64 e) := hwr.out.cell 1
              have c6' : wr.cell? ⟨q, 2, none⟩ = some u := hwr.out.cell 2
              have hf := hwr.out.free 2
              have hne : some q ≠ u.ownBlock := fun he => by have := hwr.ulow he.symm; have := hwr.q1; omega
              have HNX := Lib.hid hnx
              have HWR := Lib.hid hwr
              have hB2 : B0 ≤ wr.heap.size := hwr.sz
              have hqs := hwr.out.lt
              clear hnx hyk hlen hwr hx1 hy1 hx hy ha ha' hg hg' hcc hcc' hmm hmm' hn hn' b2 HST
              go_wp2_with fail
              go_quiet (first
                | ((go_at_call 41; with_reducible exact q_left (HA1.out _)))
                | ((go_at_call 41; with_reducible exact q_left (HA2.out _))))
              have HQ := Lib.hid (HWR.out.drewN nq)
              go_wp2_with (at_builtin; refine wpList_extend elem_i32 _ rfl (.tmp 73) (.tmp 76) rfl B0 _ u _ rfl (HQ.out.own.alloc _) _ _ [_] rfl (Reads.one_ (wr.drewN nq) _ _) (by simp [Value.oneCell']) (by simp only [List.length_cons, List.length_nil, maxLen]; omega) (by simp only [List.length_cons, List.length_nil]; omega) (by simp; omega) ?_; intro A9 c9 w1 hown hgrow hfr'; have hbk := (HQ.out.out.alloc _).grown hgrow hne; have hc1 : w1.cell? ⟨q, 2, none⟩ = some u := hbk.cell 2; have hf1 := hbk.free 2)
              have hl2 := HQ.out.next hgrow hown
              rw [← HNX.out] at hl2
              go_roundw
              case rel => exact ⟨k + 1, _, by omega, by go_num, hl2⟩
              case measure => simp [intOf]; omega
            · obtain rfl : k = gx.length := by omega
              rw [List.take_of_length_le (by have := HYL.out; omega)] at hwr
              obtain ⟨Au, cu, rfl⟩ := own_form hwr.own
              have h0 : wr.cell? ⟨q, 0, none⟩ = some (.slice A6 gd.length c6) := hwr.out.cell 0
              have h1 : wr.cell? ⟨q, 1, none⟩ = some (.int .i64 e) := hwr.out.cell 1
              have h2 : wr.cell? ⟨q, 2, none⟩ = some (.slice Au ys.length cu) := hwr.out.cell 2
              have z0 : wr.cell? ⟨b + 2, 0, none⟩ = some (.slice none 0 0) := hwr.res.cell 0
              have z1 : wr.cell? ⟨b + 2, 1, none⟩ = some (.int .i64 0) := hwr.res.cell 1
              have z2 : wr.cell? ⟨b + 2, 2, none⟩ = some (.slice none 0 0) := hwr.res.cell 2
              have y0 := hwr.res.free 0
              have y1 := hwr.res.free 1
              have y2 := hwr.res.free 2
              have HWR := Lib.hid hwr
              clear hwr b2 HST
              go_wp2
              refine bodyPost_ret (v := .tuple #[.agg #[.slice A6 gd.length c6, .int .i64 e, .slice Au ys.length cu], .int .i64 0]) (by simp [results, Try.results21, go_sem, z0, z1, z2]) rfl ?_
              have e1 : gd = D := by have := HDE.out; rwa [if_pos HNE.out] at this
              have e2 : e = E := by have := HEE.out; rw [if_pos HNE.out] at this; rw [← HE.out]; exact this
              have e3 : ys = X := by have := HXE.out; rw [if_pos HNE.out] at this; rw [← HYS.out]; exact this
              have e4 : err = 0 := by rw [← HER.out]; exact HNE.out
              rw [← e1, ← e2, ← e3, e4]
              exact HWR.out.fin _ _ _ rfl rfl TG0.out.db HYB (by omega) (by omega)
end Go.Proofs.Ythdahnjghpiheaa
