/- Contract of unit.Flat. -/
import Derived.Test.YthdahnjghpiheaaFlatP
import Derived.Deep.RegionHeld3
import Derived.Deep.DrawnRows
namespace Go.Proofs.Ythdahnjghpiheaa
open Go.RowKit
set_option linter.unusedVariables false

set_option maxHeartbeats 1600000 in
set_option maxRecDepth 100000 in
theorem flat_any (dims : List Int) (exp : Int) (data : List Int) (dv xv : Value) (w : World) (B : Nat) (hB : B ≤ w.heap.size) (h : IsT w B dv xv dims exp data) (D : List Int) (E : Int) (X : List Int) (err : Int)
    (hD : shapeD dims exp data (flatD dims) = D) (hE : shapeE dims exp data (flatD dims) = E) (hX : shapeX dims exp data (flatD dims) = X) (he : flatErr dims exp data = err) :
    Calls Try.prog 16 #[.agg #[dv, .int .i64 exp, xv]] w (FormT w D E X err) := by
  have hb0 := two_alloc0 w (.cells #[dv, .int .i64 exp, xv] 25) (.cells #[.slice none 0 0, .int .i64 0, .slice none 0 0] 25)
  have hI0 := h.below (hb0.mono hB)
  have hM := tmay_any dims exp data dv xv _ B (Nat.le_trans hB hb0.size) hI0
  obtain ⟨A, c, rfl, _, _⟩ := h.d.form
  obtain ⟨A', c', rfl, _, _⟩ := h.x.form
  simp only [length_ints] at *
  have K1 := Lib.hid ((Blk.fresh w 25 [.slice A dims.length c, .int .i64 exp, .slice A' data.length c']).alloc (.cells #[.slice none 0 0, .int .i64 0, .slice none 0 0] 25))
  have K2 := Lib.hid (Blk.fresh (w.alloc (.cells #[.slice A dims.length c, .int .i64 exp, .slice A' data.length c'] 25)) 25 [.slice none 0 0, .int .i64 0, .slice none 0 0])
  have HM := Lib.hid hM
  have HB0 := Lib.hid hb0
  have HI := Lib.hid hI0
  have HDE := Lib.hid hD
  have HEE := Lib.hid hE
  have HXE := Lib.hid hX
  have HER := Lib.hid he
  clear hM hb0 hI0 h hD hE hX he
  go_enter Try.func16, Try.ntmps16
  go_wp2_with fail
  refine HM.out.mono ?_
  rintro e w3 ⟨rfl, hb3⟩
  have k1 := K1.out.below hb3 (by simp; omega)
  have k2 := K2.out.below hb3 (by simp)
  have hi3 := (HI.out.below (hb3.mono (by simp; omega)))
  have hb4 := HB0.out.trans (hb3.mono (by simp; omega))
  simp only [World.size_alloc] at k2
  clear hb3 HM K1 K2 HI HB0
  obtain ⟨b, hb⟩ : ∃ b, w.heap.size = b := ⟨_, rfl⟩
  rw [hb] at k1 k2
  rw [hb]
  have HBE := Lib.hid hb
  have K1 := Lib.hid k1
  have K2 := Lib.hid k2
  have HI := Lib.hid hi3
  have HB := Lib.hid hb4
  have s0 : w3.cell? ⟨b, 0, none⟩ = some (.slice A dims.length c) := k1.cell 0
  have s1 : w3.cell? ⟨b, 1, none⟩ = some (.int .i64 exp) := k1.cell 1
  have s2 : w3.cell? ⟨b, 2, none⟩ = some (.slice A' data.length c') := k1.cell 2
  clear k1 k2 hi3 hb4 hb
  by_cases p1 : mayB dims exp data = true
  · have hpos : 0 < sizeI dims := by
      unfold mayB at p1
      simp only [Bool.and_eq_true, decide_eq_true_eq, beq_iff_eq] at p1
      exact p1.1
    obtain ⟨x, xs, hxd, hx1, hx2, m, hm1, hsz, hdv⟩ := flat_head hpos
    have hsb := sizeI_bound dims
    have hlen : 1 ≤ dims.length := by rw [hxd]; simp
    have hd0 : dims[0]? = some x := by rw [hxd]; rfl
    have hfd : flatD dims = [x, m] := by unfold flatD; rw [hdv.symm]; rw [hxd]; rfl
    obtain ⟨AA, n, cc, hva, hn, hcc, hmm, ha⟩ := HI.out.d
    injection hva with q1 q2 q3
    subst q1 q2 q3
    obtain ⟨g, o, rfl, hg, hx⟩ := ha.out (by omega)
    have z0 : w3.cell? ⟨g, o, none⟩ = some (.int .i64 x) := by
      have := hx 0 (.int .i64 x) (by simp [ints, hd0])
      simpa using this
    have HSZ := Lib.hid (size_any dims _ w3.drew B HI.out.d.drew HI.out.db.out)
    have hlm : m ≤ 8192 := by
      have h1 := hdv ▸ Int.ediv_le_self x hsb.1
      omega
    have hq : IntKind.i64.wrap ((sizeI dims).tdiv x) = m := by
      rw [Int.tdiv_eq_ediv_of_nonneg hsb.1, hdv]
      exact IntWalk.i64_in _ (by omega)
    have hrd : ∀ q, q = m → Reads ((w3.alloc (.cells #[.int .i64 x, .int .i64 q] 3)).drew) ((w3.alloc (.cells #[.int .i64 x, .int .i64 q] 3)).drew).heap.size (.slice (some ⟨w3.heap.size, 0, none⟩) 2 2) (ints .i64 (flatD dims)) := by
      rintro q rfl
      rw [hfd]
      exact ((Blk.fresh w3 3 [.int .i64 x, .int .i64 q]).drew.reads rfl (by unfold maxLen; omega))
    have hfb : ∀ y ∈ flatD dims, -9223372036854775808 ≤ y ∧ y ≤ 9223372036854775807 := by
      rw [hfd]; intro y hy; simp at hy; omega
    have hba : ∀ q : Int, Below w3.heap.size w3 (w3.alloc (.cells #[.int .i64 x, .int .i64 q] 3)).drew := fun q => ((Below.refl _ _).alloc (Nat.le_refl _) _).drew
    have HC := Lib.hid (shape_callO dims exp data _ _ (flatD dims) _ ((w3.alloc (.cells #[.int .i64 x, .int .i64 (IntKind.i64.wrap ((sizeI dims).tdiv x))] 3)).drew) _ _ (Nat.le_trans (Nat.le_trans hB HB.out.size) (hba _).size) (Nat.le_refl _) D E X err
      (HI.out.below ((hba _).mono (Nat.le_trans hB HB.out.size))) (hrd _ hq) hfb HDE.out HEE.out HXE.out HER.out)
    have HBA := Lib.hid (hba (IntKind.i64.wrap ((sizeI dims).tdiv x)))
    clear hrd hba hq hfb hlm
    generalize sizeI dims = s at hsb hsz hdv HSZ HC HBA
    obtain ⟨hs0, hs1⟩ := hsb
    have hne : ¬ x = 0 := by omega
    have P1 := Lib.hid p1
    have HFD := Lib.hid hfd
    have HSE := Lib.hid hsz
    have HDV := Lib.hid hdv
    have hg3 : g < w3.heap.size := by have := HB.out.size; omega
    have hneb : ¬ b = b + 1 := by omega
    have hneg : ¬ g = b + 1 := by have := HBE.out; omega
    have hgb : g < b := by have := HBE.out; omega
    rw [p1]
    clear p1 hfd hsz hdv ha hx hd0 hxd hpos hn hcc hmm
    generalize dims.length = n at *
    have i0 : (0 : Int) < (n : Int) := by omega
    have i0' : 0 < n := by omega
    go_wp2_with fail
    go_region_held3 (fun w' => w'.cell? ⟨b, 0, none⟩ = some (.slice (some ⟨g, o, none⟩) n c) ∧ w'.cell? ⟨b, 1, none⟩ = some (.int .i64 exp) ∧ w'.cell? ⟨b, 2, none⟩ = some (.slice A' data.length c') ∧ w'.cell? ⟨g, o, none⟩ = some (.int .i64 x)) (first | (go_keep; done) | exact ⟨c50, c51, c52, c53⟩ | exact ⟨((off_set3 w5 (b + 1) _ _ _).cell (p := ⟨b, 0, none⟩) hltb hneb).trans c50, ((off_set3 w5 (b + 1) _ _ _).cell (p := ⟨b, 1, none⟩) hltb hneb).trans c51, ((off_set3 w5 (b + 1) _ _ _).cell (p := ⟨b, 2, none⟩) hltb hneb).trans c52, ((off_set3 w5 (b + 1) _ _ _).cell (p := ⟨g, o, none⟩) hltg hneg).trans c53⟩) (first
      | (go_at_call 32; refine HSZ.out.mono ?_; rintro e5 w5 ⟨rfl, rfl⟩)
      | ((go_at_call 12; refine HC.out.mono ?_; rintro e5 w5 ⟨Ad, cd, Ax, cx, rfl, hT5, hb5, o5, o6⟩; have hbb := HBA.out.trans (hb5.mono HBA.out.size); have k5 := K1.out.below hbb K1.out.lt; have c50 : w5.cell? ⟨b, 0, none⟩ = some (.slice (some ⟨g, o, none⟩) n c) := k5.cell 0; have c51 : w5.cell? ⟨b, 1, none⟩ = some (.int .i64 exp) := k5.cell 1; have c52 : w5.cell? ⟨b, 2, none⟩ = some (.slice A' data.length c') := k5.cell 2; have c53 : w5.cell? ⟨g, o, none⟩ = some (.int .i64 x) := (hbb.cell (p := ⟨g, o, none⟩) hg3).trans z0; clear hbb k5; have m5 := K2.out.below (HBA.out.trans (hb5.mono HBA.out.size)) K2.out.lt; have y0 : w5.cell? ⟨b + 1, 0, none⟩ = some (.slice none 0 0) := m5.cell 0; have y1 : w5.cell? ⟨b + 1, 1, none⟩ = some (.int .i64 0) := m5.cell 1; have y2 : w5.cell? ⟨b + 1, 2, none⟩ = some (.slice none 0 0) := m5.cell 2; have f0 := m5.free 0; have f1 := m5.free 1; have f2 := m5.free 2; have hltb : b < w5.heap.size := (by have := m5.lt; omega); have hltg : g < w5.heap.size := (by have := m5.lt; omega); clear m5; have HT5 := Lib.hid hT5; have HB5 := Lib.hid hb5; have HO5 := Lib.hid o5; have HO6 := Lib.hid o6; clear hT5 hb5 o5 o6)))
    all_goals
      go_wp2
      refine bodyPost_ret (v := .tuple #[.agg #[.slice Ad D.length cd, .int .i64 E, .slice Ax X.length cx], .int .i64 err]) (by simp [results, Try.results16, go_sem, y0, y1, y2]) rfl ?_
      have hbe := HBE.out
      have hba := HBA.out.size
      have hb3 := HB.out.size
      have hk := K2.out.lt
      have hoff := off_set3 w5 (b + 1) (.slice Ad D.length cd) (.int .i64 E) (.slice Ax X.length cx)
      have i6 := own_off HO5.out hoff (fun k hk he => by have := (HO5.out.lt k hk).1; omega)
      have i7 := own_off HO6.out hoff (fun k hk he => by have := (HO6.out.lt k hk).1; omega)
      refine FormO.form ⟨Ad, cd, Ax, cx, rfl, ⟨Reads.of_own i6, Reads.of_own i7, HT5.out.db, HT5.out.xb, HT5.out.e0, HT5.out.e1⟩, ?_, own_lower i6 (by omega), own_lower i7 (by omega)⟩
      exact ((HB.out.trans (HBA.out.mono hb3)).trans (HB5.out.mono (by omega))).trans (hoff.below (by have := HB5.out.size; omega) (fun i hi => by omega))
  · have t1 : mayB dims exp data = false := by simpa using p1
    have se : shapeErr dims exp data (flatD dims) = 1 := by unfold shapeErr; rw [if_neg (fun h => p1 h.1)]
    have hne : ¬ shapeErr dims exp data (flatD dims) = 0 := by rw [se]; omega
    obtain rfl : D = [] := by have := HDE.out; unfold shapeD at this; rw [if_neg hne] at this; exact this.symm
    obtain rfl : E = 0 := by have := HEE.out; unfold shapeE at this; rw [if_neg hne] at this; exact this.symm
    obtain rfl : X = [] := by have := HXE.out; unfold shapeX at this; rw [if_neg hne] at this; exact this.symm
    obtain rfl : err = 1 := by have := HER.out; unfold flatErr at this; rw [se] at this; exact this.symm
    have r0 : w3.cell? ⟨b + 1, 0, none⟩ = some (.slice none 0 0) := K2.out.cell 0
    have r1 : w3.cell? ⟨b + 1, 1, none⟩ = some (.int .i64 0) := K2.out.cell 1
    have r2 : w3.cell? ⟨b + 1, 2, none⟩ = some (.slice none 0 0) := K2.out.cell 2
    have f0 := K2.out.free 0
    have f1 := K2.out.free 1
    have f2 := K2.out.free 2
    rw [t1]
    clear t1 p1 se hne
    go_wp2
    refine bodyPost_ret (v := .tuple #[.agg #[.slice none 0 0, .int .i64 0, .slice none 0 0], .int .i64 1]) (by simp [results, Try.results16, go_sem, r0, r1, r2]) rfl ?_
    apply GivesT.form
    exact ⟨_, _, rfl, IsT.zero _ _, HB.out.trans ((off_set3 w3 (b + 1) _ _ _).below (by have := HB.out.size; omega) (fun i hi => by have := HBE.out; omega)), World.ownsRow_nil _ _ _ _, World.ownsRow_nil _ _ _ _⟩
end Go.Proofs.Ythdahnjghpiheaa
