/- Contract of the reference's may, of one tensor and of two. -/
import Derived.Test.YthdahnjghpiheaaRefShape
import Derived.Test.YthdahnjghpiheaaBack2
namespace Go.Proofs.Ythdahnjghpiheaa
open Go.RowKit
set_option linter.unusedVariables false

set_option maxHeartbeats 1600000 in
set_option maxRecDepth 100000 in
theorem may1t_any (gd : List Int) (ge : Int) (gx : List Int) (gv gw : Value) (w : World) (B g : Nat) (hB : B ≤ w.heap.size) (h : IsT w B gv gw gd ge gx) (hk : Blk w g 25 [gv, .int .i64 ge, gw]) :
    Calls Try.prog 42 #[.slice (some ⟨g, 0, none⟩) 1 1] w fun en w' => en = .returned (.bool (mayB gd ge gx)) ∧ Below w.heap.size w w' := by
  obtain ⟨A, c, rfl, _, _⟩ := h.d.form
  obtain ⟨A', c', rfl, _, _⟩ := h.x.form
  simp only [length_ints] at *
  obtain ⟨mg, hmg⟩ : ∃ m, mayB gd ge gx = m := ⟨_, rfl⟩
  have HMG := Lib.hid hmg
  have H := Lib.hid h
  have K := Lib.hid hk
  rw [hmg]
  clear hmg h hk
  go_enter Try.func42, Try.ntmps42
  go_wp2
  go_loopw [7] (fun i wr => ∃ k : Nat, k ≤ 1 ∧ i = .int .i64 k ∧ (k = 1 → mg = true) ∧ Below w.heap.size w wr) (fun i _ => 1 - (intOf i).toNat)
  case atStart => exact ⟨0, by omega, rfl, by omega, Below.refl _ _⟩
  case round =>
    obtain ⟨k, hk, rfl, hmk, hbel⟩ := hrel
    rcases (by omega : k = 0 ∨ k = 1) with rfl | rfl
    · have kk := K.out.below hbel K.out.lt
      have r0 : wr.cell? ⟨g, 0, none⟩ = some (.slice A gd.length c) := kk.cell 0
      have r1 : wr.cell? ⟨g, 1, none⟩ = some (.int .i64 ge) := kk.cell 1
      have r2 : wr.cell? ⟨g, 2, none⟩ = some (.slice A' gx.length c') := kk.cell 2
      have hg := kk.lt
      have HBL := Lib.hid hbel
      have hI := (H.out.below (hbel.mono hB)).below ((Below.refl wr.heap.size wr |>.alloc (Nat.le_refl _) (.cells #[.slice A gd.length c, .int .i64 ge, .slice A' gx.length c'] 25)).mono (by have := hbel.size; omega))
      have hM := mayt_any gd ge gx _ _ (wr.alloc (.cells #[.slice A gd.length c, .int .i64 ge, .slice A' gx.length c'] 25)) B (by have := hbel.size; simp; omega) hI
      rw [HMG.out] at hM
      have HM := Lib.hid hM
      clear kk hbel hI hM hmk
      go_wp2_with fail
      refine HM.out.mono ?_
      rintro en w3 ⟨rfl, hb3⟩
      have HB3 := Lib.hid (((HBL.out.alloc HBL.out.size _)).trans (hb3.mono (by have := HBL.out.size; simp; omega)))
      clear hb3
      cases mg with
      | false =>
        go_wp2
        go_ret
        exact ⟨rfl, HB3.out⟩
      | true =>
        go_wp2
        go_roundw
        case rel => exact ⟨1, by omega, by go_num, by first | trivial | (intro _; first | rfl | trivial), HB3.out⟩
        case measure => simp [intOf]
    · have := hmk rfl
      subst this
      have HBL := Lib.hid hbel
      clear hmk hbel
      go_wp2
      go_ret
      exact ⟨rfl, HBL.out⟩

set_option maxHeartbeats 1600000 in
set_option maxRecDepth 100000 in
theorem may2t_any (gd : List Int) (ge : Int) (gx xd : List Int) (xe : Int) (xx : List Int) (gv gw xv xw : Value) (w : World) (B g : Nat) (hB : B ≤ w.heap.size) (h : IsT w B gv gw gd ge gx) (h' : IsT w B xv xw xd xe xx) (hk : Blk w g 25 [gv, .int .i64 ge, gw, xv, .int .i64 xe, xw]) :
    Calls Try.prog 42 #[.slice (some ⟨g, 0, none⟩) 2 2] w fun en w' => en = .returned (.bool (mayB gd ge gx && mayB xd xe xx)) ∧ Below w.heap.size w w' := by
  obtain ⟨A, c, rfl, _, _⟩ := h.d.form
  obtain ⟨A', c', rfl, _, _⟩ := h.x.form
  obtain ⟨A2, c2, rfl, _, _⟩ := h'.d.form
  obtain ⟨A2', c2', rfl, _, _⟩ := h'.x.form
  simp only [length_ints] at *
  obtain ⟨mg, hmg⟩ : ∃ m, mayB gd ge gx = m := ⟨_, rfl⟩
  obtain ⟨mx, hmx⟩ : ∃ m, mayB xd xe xx = m := ⟨_, rfl⟩
  have HMG := Lib.hid hmg
  have HMX := Lib.hid hmx
  have H := Lib.hid h
  have H' := Lib.hid h'
  have K := Lib.hid hk
  rw [hmg, hmx]
  clear hmg hmx h h' hk
  go_enter Try.func42, Try.ntmps42
  go_wp2
  go_loopw [7] (fun i wr => ∃ k : Nat, k ≤ 2 ∧ i = .int .i64 k ∧ (1 ≤ k → mg = true) ∧ (k = 2 → mx = true) ∧ Below w.heap.size w wr) (fun i _ => 2 - (intOf i).toNat)
  case atStart => exact ⟨0, by omega, rfl, by omega, by omega, Below.refl _ _⟩
  case round =>
    obtain ⟨k, hk, rfl, hmk, hmk2, hbel⟩ := hrel
    have kk := K.out.below hbel K.out.lt
    have hg := kk.lt
    have HBL := Lib.hid hbel
    have hbs := hbel.size
    rcases (by omega : k = 0 ∨ k = 1 ∨ k = 2) with rfl | rfl | rfl
    · have r0 : wr.cell? ⟨g, 0, none⟩ = some (.slice A gd.length c) := kk.cell 0
      have r1 : wr.cell? ⟨g, 1, none⟩ = some (.int .i64 ge) := kk.cell 1
      have r2 : wr.cell? ⟨g, 2, none⟩ = some (.slice A' gx.length c') := kk.cell 2
      have hI := (H.out.below (hbel.mono hB)).below ((Below.refl wr.heap.size wr |>.alloc (Nat.le_refl _) (.cells #[.slice A gd.length c, .int .i64 ge, .slice A' gx.length c'] 25)).mono (by omega))
      have hM := mayt_any gd ge gx _ _ (wr.alloc (.cells #[.slice A gd.length c, .int .i64 ge, .slice A' gx.length c'] 25)) B (by simp; omega) hI
      rw [HMG.out] at hM
      have HM := Lib.hid hM
      clear kk hbel hI hM hmk hmk2
      go_wp2_with fail
      refine HM.out.mono ?_
      rintro en w3 ⟨rfl, hb3⟩
      have HB3 := Lib.hid (((HBL.out.alloc HBL.out.size _)).trans (hb3.mono (by simp; omega)))
      clear hb3
      cases mg with
      | false =>
        go_wp2
        go_ret
        exact ⟨rfl, HB3.out⟩
      | true =>
        go_wp2
        go_roundw
        case rel => exact ⟨1, by omega, by go_num, by first | trivial | (intro _; first | rfl | trivial), by omega, HB3.out⟩
        case measure => simp [intOf]
    · have hmt := hmk (by omega)
      subst hmt
      have r0 : wr.cell? ⟨g, 3, none⟩ = some (.slice A2 xd.length c2) := kk.cell 3
      have r1 : wr.cell? ⟨g, 4, none⟩ = some (.int .i64 xe) := kk.cell 4
      have r2 : wr.cell? ⟨g, 5, none⟩ = some (.slice A2' xx.length c2') := kk.cell 5
      have hI := (H'.out.below (hbel.mono hB)).below ((Below.refl wr.heap.size wr |>.alloc (Nat.le_refl _) (.cells #[.slice A2 xd.length c2, .int .i64 xe, .slice A2' xx.length c2'] 25)).mono (by omega))
      have hM := mayt_any xd xe xx _ _ (wr.alloc (.cells #[.slice A2 xd.length c2, .int .i64 xe, .slice A2' xx.length c2'] 25)) B (by simp; omega) hI
      rw [HMX.out] at hM
      have HM := Lib.hid hM
      clear kk hbel hI hM hmk hmk2
      go_wp2_with fail
      refine HM.out.mono ?_
      rintro en w3 ⟨rfl, hb3⟩
      have HB3 := Lib.hid (((HBL.out.alloc HBL.out.size _)).trans (hb3.mono (by simp; omega)))
      clear hb3
      cases mx with
      | false =>
        go_wp2
        go_ret
        exact ⟨rfl, HB3.out⟩
      | true =>
        go_wp2
        go_roundw
        case rel => exact ⟨2, by omega, by go_num, by first | trivial | (intro _; first | rfl | trivial), by first | trivial | (intro _; first | rfl | trivial), HB3.out⟩
        case measure => simp [intOf]
    · have hmt := hmk (by omega)
      have hmt2 := hmk2 rfl
      subst hmt hmt2
      clear hmk hbel kk hmk2
      go_wp2
      go_ret
      exact ⟨rfl, HBL.out⟩
end Go.Proofs.Ythdahnjghpiheaa
