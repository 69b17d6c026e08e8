/- Contract of pedagoguelaw16.awake. -/
import Derived.Test.YtkileiikffomlaaNetNet
namespace Go.Proofs.Ytkileiikffomlaa
open Go.RowKit
set_option linter.unusedVariables false

theorem flat_shapes : shapesM 1 1 2 [lflat, ldense 3] = ([[1, 1, 2], [2], [3]], 0, 0) := by decide +kernel
theorem flat_net : (walkI false 1 1 2 [lflat, ldense 3] 3 2).2 = (0, 0) := by decide +kernel
theorem flat_longest : longestI 1 1 2 [lflat, ldense 3] 2 = 3 := by decide +kernel

set_option maxHeartbeats 1600000 in
set_option maxRecDepth 100000 in
theorem awake16_any (w : World) : Calls Try.prog 11 #[] w fun en w' => en = .returned (.bool true) ∧ Below w.heap.size w w' := by
  have w3 : inW 3 := by unfold inW; omega
  have w2 : inW 2 := by unfold inW; omega
  have H3 := Lib.hid w3
  have H2 := Lib.hid w2
  have FN := Lib.hid flat_net
  have FL := Lib.hid flat_longest
  have FSh := Lib.hid flat_shapes
  clear w3 w2
  go_enter Try.func11, Try.ntmps11
  go_wp2_with fail
  refine (flat_any 3 H3.out _).mono ?_
  rintro en wa ⟨g1, rfl, hl1, hba⟩
  have HL1 := Lib.hid hl1
  have HBA := Lib.hid hba
  clear hl1 hba
  go_wp2_with fail
  refine (net_any 1 1 2 _ _ 3 2 wa wa.heap.size (Nat.le_refl _) HL1.out H3.out H2.out (0, 0) FN.out).mono ?_
  rintro en wb ⟨rfl, hbb⟩
  have HBB := Lib.hid (HBA.out.trans (hbb.mono HBA.out.size))
  clear hbb HL1 HBA
  dsimp only
  go_wp2_with fail
  refine (flat_any 3 H3.out _).mono ?_
  rintro en wc ⟨g2, rfl, hl2, hbc⟩
  have HL2 := Lib.hid hl2
  have HBC := Lib.hid (HBB.out.trans (hbc.mono HBB.out.size))
  clear hl2 hbc HBB
  go_wp2_with fail
  refine (shapes_any 1 1 2 _ _ wc wc.heap.size (Nat.le_refl _) HL2.out _ FSh.out).mono ?_
  rintro en wd ⟨A, c, rfl, hrows, hbd⟩
  have HBD := Lib.hid (HBC.out.trans (hbd.mono HBC.out.size))
  dsimp only at hrows ⊢
  obtain ⟨gr, og, c3, A3, c4, e1, hgr, hc, hrl⟩ := hrows.at_ (k := 2) (d := [3]) rfl
  injection e1 with e1 _ e3
  subst e1 e3
  obtain ⟨gx, ox, rfl, hgx, hx1⟩ := cells_of (k := 0) (x := 3) hrl rfl
  have hx2 : wd.cell? ⟨gx, ox, none⟩ = some (.int .i64 3) := hx1
  clear hrows hbd hrl hx1 HL2 HBC
  simp only [List.length_cons, List.length_nil, Nat.zero_add, Nat.reduceAdd] at hc ⊢
  go_wp2_with fail
  refine (flat_any 3 H3.out _).mono ?_
  rintro en we ⟨g3, rfl, hl3, hbe⟩
  have HL3 := Lib.hid hl3
  have HBE := Lib.hid (HBD.out.trans (hbe.mono HBD.out.size))
  clear hl3 hbe
  go_wp2_with fail
  refine (longest_any 1 1 2 _ _ 2 we we.heap.size (Nat.le_refl _) HL3.out H2.out 3 FL.out).mono ?_
  rintro en wf ⟨rfl, hbf⟩
  have HBF := Lib.hid (HBE.out.trans (hbf.mono HBE.out.size))
  clear hbf
  go_wp2
  go_ret
  exact ⟨rfl, HBF.out⟩
end Go.Proofs.Ytkileiikffomlaa
