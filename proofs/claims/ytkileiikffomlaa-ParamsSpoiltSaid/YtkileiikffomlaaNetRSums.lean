/- Contracts of the reference's dims, lengths. -/
import Derived.Test.YtkileiikffomlaaNetSums
namespace Go.Proofs.Ytkileiikffomlaa
open Go.RowKit
set_option linter.unusedVariables false
set_option linter.unusedSimpArgs false

/-- lengths of a layer's weights, its biases -/
def dimsI (l : LayV) (d : List Int) : List Int × Int := if l.kind = 1 then ([l.out, d.headD 0], l.out) else if l.kind = 2 then ([l.out, d.headD 0, l.k, l.k], l.out) else ([], 0)
def Lens (w : World) (cs : List Int) (en : Ending) (w' : World) : Prop := ∃ A c, en = .returned (.slice A cs.length c) ∧ Reads w' w'.heap.size (.slice A cs.length c) (ints .i64 cs) ∧ Below w.heap.size w w'

set_option maxHeartbeats 3200000 in
set_option maxRecDepth 100000 in
theorem rdims_any (kd out k st pd fr : Int) (fz : Bool) (d : List Int) (dv : Value) (w : World) (B : Nat) (hB : B ≤ w.heap.size) (hd : Reads w B dv (ints .i64 d)) (hgd : GoodD d) (r : List Int × Int) (hr : dimsI ⟨kd, out, k, st, pd, fr, fz⟩ d = r) :
    Calls Try.prog 36 #[.agg #[.int .i64 kd, .int .i64 out, .int .i64 k, .int .i64 st, .int .i64 pd, .int .i64 fr, .bool fz], dv] w (Summed w r.1 r.2) := by
  subst hr
  obtain ⟨A, c, rfl, _, _⟩ := hd.form
  simp only [length_ints] at *
  have hb0 := net_one w (.cells #[.int .i64 kd, .int .i64 out, .int .i64 k, .int .i64 st, .int .i64 pd, .int .i64 fr, .bool fz] 43)
  have HB0 := Lib.hid hb0
  have hpos := hgd.pos
  obtain ⟨x, hx⟩ : ∃ x, d[0]? = some x := ⟨d[0]'(by omega), List.getElem?_eq_getElem (by omega)⟩
  obtain ⟨g1, o1, rfl, hg1, hx1⟩ := cells_of (hd.below (hb0.mono hB)) hx
  have hx0 : d.headD 0 = x := by cases d with
    | nil => simp at hx
    | cons y d => simp at hx ⊢; exact hx
  have hxb := hgd.bd x (List.mem_of_getElem? hx)
  have z0 : (0 : Int) < (d.length : Int) := by omega
  have HX0 := Lib.hid hx0
  have HSZ : Hid ((w.alloc (.cells #[.int .i64 kd, .int .i64 out, .int .i64 k, .int .i64 st, .int .i64 pd, .int .i64 fr, .bool fz] 43)).drew.heap.size = w.heap.size + 1) := Lib.hid (by show (w.alloc _).heap.size = _; simp)
  obtain ⟨hx2, hx3⟩ := hxb
  clear hx hx0 hd hgd hb0
  by_cases hd : kd = 1
  · subst hd
    have kb := (Blk.fresh w 43 [.int .i64 1, .int .i64 out, .int .i64 k, .int .i64 st, .int .i64 pd, .int .i64 fr, .bool fz]).drew
    go_enter Try.func36, Try.ntmps36
    go_upto_region 3 with fail
    refine wp_region_held_drew (S := (fun w' => w'.cell? ⟨g1, o1, none⟩ = some (.int .i64 x) ∧ w'.cell? ⟨w.heap.size, 0, none⟩ = some (.int .i64 1) ∧ w'.cell? ⟨w.heap.size, 1, none⟩ = some (.int .i64 out) ∧ w'.cell? ⟨w.heap.size, 2, none⟩ = some (.int .i64 k) ∧ w'.cell? ⟨w.heap.size, 3, none⟩ = some (.int .i64 st) ∧ w'.cell? ⟨w.heap.size, 4, none⟩ = some (.int .i64 pd) ∧ w'.cell? ⟨w.heap.size, 5, none⟩ = some (.int .i64 fr) ∧ w'.cell? ⟨w.heap.size, 6, none⟩ = some (.bool fz))) (by kernel_rfl) (⟨hx1, kb.cell 0, kb.cell 1, kb.cell 2, kb.cell 3, kb.cell 4, kb.cell 5, kb.cell 6⟩) (fun hHeld => ?_)
    refine' wpAnyH_take (i := 0) (v := _) rfl (by kernel_rfl) (by kernel_rfl) (by kernel_rfl) (fun _ _ _ h => h) (Or.inl ⟨by rfl, ?taq1⟩) (by assumption) ?tbq1
    case taq1 =>
      intro wS hSw
      (try dsimp only at hSw)
      go_simp
      (try (with_reducible rfl))
    (try simp only [List.getElem_toArray, List.getElem_cons_zero, List.getElem_cons_succ, Act.put, List.setIfInBounds_toArray, List.set_cons_zero, List.set_cons_succ])
    refine' wpAnyH_take (i := 1) (v := _) rfl (by kernel_rfl) (by kernel_rfl) (by kernel_rfl) (fun _ _ _ h => h) (Or.inl ⟨by rfl, ?taq2⟩) (by assumption) ?tbq2
    case taq2 =>
      intro wS hSw
      (try dsimp only at hSw)
      go_simp
      (try (with_reducible rfl))
    (try simp only [List.getElem_toArray, List.getElem_cons_zero, List.getElem_cons_succ, Act.put, List.setIfInBounds_toArray, List.set_cons_zero, List.set_cons_succ])
    refine' wpAnyH_take (i := 2) (v := _) rfl (by kernel_rfl) (by kernel_rfl) (by kernel_rfl) (fun _ _ _ h => h) (Or.inl ⟨by rfl, ?taq3⟩) (by assumption) ?tbq3
    case taq3 =>
      intro wS hSw
      (try dsimp only at hSw)
      go_simp
      (try (with_reducible rfl))
    (try simp only [List.getElem_toArray, List.getElem_cons_zero, List.getElem_cons_succ, Act.put, List.setIfInBounds_toArray, List.set_cons_zero, List.set_cons_succ])
    refine' wpAnyH_take (i := 3) (v := _) rfl (by kernel_rfl) (by kernel_rfl) (by kernel_rfl) (fun _ _ _ h => h) (Or.inl ⟨by rfl, ?taq4⟩) (by assumption) ?tbq4
    case taq4 =>
      intro wS hSw
      (try dsimp only at hSw)
      go_simp
      (try (with_reducible rfl))
    (try simp only [List.getElem_toArray, List.getElem_cons_zero, List.getElem_cons_succ, Act.put, List.setIfInBounds_toArray, List.set_cons_zero, List.set_cons_succ])
    refine' wpAnyH_take (i := 4) (v := _) rfl (by kernel_rfl) (by kernel_rfl) (by kernel_rfl) (fun _ _ _ h => h) (Or.inl ⟨by rfl, ?taq5⟩) (by assumption) ?tbq5
    case taq5 =>
      intro wS hSw
      (try dsimp only at hSw)
      go_simp
      (try (with_reducible rfl))
    (try simp only [List.getElem_toArray, List.getElem_cons_zero, List.getElem_cons_succ, Act.put, List.setIfInBounds_toArray, List.set_cons_zero, List.set_cons_succ])
    refine' wpAnyH_take (i := 6) (v := _) rfl (by kernel_rfl) (by kernel_rfl) (by kernel_rfl) (fun _ _ _ h => h) (Or.inl ⟨by rfl, ?taq6⟩) (by assumption) ?tbq6
    case taq6 =>
      intro wS hSw
      (try dsimp only at hSw)
      go_simp
      (try (with_reducible rfl))
    (try simp only [List.getElem_toArray, List.getElem_cons_zero, List.getElem_cons_succ, Act.put, List.setIfInBounds_toArray, List.set_cons_zero, List.set_cons_succ])
    refine' wpAnyH_take (i := 7) (v := _) rfl (by kernel_rfl) (by kernel_rfl) (by kernel_rfl) (fun _ _ _ h => h) (Or.inl ⟨by rfl, ?taq7⟩) (by assumption) ?tbq7
    case taq7 =>
      intro wS hSw
      (try dsimp only at hSw)
      go_simp
      (try (with_reducible rfl))
    (try simp only [List.getElem_toArray, List.getElem_cons_zero, List.getElem_cons_succ, Act.put, List.setIfInBounds_toArray, List.set_cons_zero, List.set_cons_succ])
    refine wpAnyH_ready (rs := [5]) (by kernel_rfl) (by simp) ?_
    refine AllReadyH.cons rfl (fun K9 hK9 => ?_) AllReadyH.nil
    (try simp only [List.getElem_toArray, List.getElem_cons_zero, List.getElem_cons_succ])
    go_simp
    have hal := net_one (w.alloc (.cells #[.int .i64 1, .int .i64 out, .int .i64 k, .int .i64 st, .int .i64 pd, .int .i64 fr, .bool fz] 43)).drew (.cells #[.int .i64 out, .int .i64 x] 3)
    have hx5 : ((w.alloc (.cells #[.int .i64 1, .int .i64 out, .int .i64 k, .int .i64 st, .int .i64 pd, .int .i64 fr, .bool fz] 43)).alloc (.cells #[.int .i64 out, .int .i64 x] 3)).drew.cell? ⟨g1, o1, none⟩ = some (.int .i64 x) := (hal.cell (p := ⟨g1, o1, none⟩) (by show g1 < (w.alloc _).heap.size; simp; omega)).trans hx1
    have kb5 := kb.below hal kb.lt
    refine hK9.out _ _ (⟨hx5, kb5.cell 0, kb5.cell 1, kb5.cell 2, kb5.cell 3, kb5.cell 4, kb5.cell 5, kb5.cell 6⟩) (fun hHeld9 => ?_)
    clear hK9 K9
    (try simp only [List.getElem_toArray, List.getElem_cons_zero, List.getElem_cons_succ, Act.put, List.setIfInBounds_toArray, List.set_cons_zero, List.set_cons_succ])
    refine' wpAnyH_take (i := 8) (v := _) rfl (by kernel_rfl) (by kernel_rfl) (by kernel_rfl) (fun _ _ _ h => h) (Or.inl ⟨by rfl, ?taq8⟩) (by assumption) ?tbq8
    case taq8 =>
      intro wS hSw
      (try dsimp only at hSw)
      go_simp
      (try (with_reducible rfl))
    (try simp only [List.getElem_toArray, List.getElem_cons_zero, List.getElem_cons_succ, Act.put, List.setIfInBounds_toArray, List.set_cons_zero, List.set_cons_succ])
    refine' wpAnyH_take (i := 9) (v := _) rfl (by kernel_rfl) (by kernel_rfl) (by kernel_rfl) (fun _ _ _ h => h) (Or.inl ⟨by rfl, ?taq9⟩) (by assumption) ?tbq9
    case taq9 =>
      intro wS hSw
      (try dsimp only at hSw)
      go_simp
      (try (with_reducible rfl))
    (try simp only [List.getElem_toArray, List.getElem_cons_zero, List.getElem_cons_succ, Act.put, List.setIfInBounds_toArray, List.set_cons_zero, List.set_cons_succ])
    refine wpAnyH_done (by kernel_rfl) ?_ _
    go_wp2
    refine bodyPost_ret (v := .tuple #[.slice (some ⟨w.heap.size + 1, 0, none⟩) 2 2, .int .i64 out]) (by simp [results, Try.results36, go_sem]) rfl ?_
    have hs : dimsI ⟨1, out, k, st, pd, fr, fz⟩ d = ([out, x], out) := by unfold dimsI; rw [HX0.out]; rfl
    rw [hs]
    exact ⟨_, _, rfl, lit_reads (w1 := (w.alloc (.cells #[.int .i64 1, .int .i64 out, .int .i64 k, .int .i64 st, .int .i64 pd, .int .i64 fr, .bool fz] 43)).drew) (cs := [.int .i64 out, .int .i64 x]) (e := [out, x]) (n := 2) rfl rfl (by omega) HSZ.out, HB0.out.drew.alloc (by have := HSZ.out; omega) _⟩
  · have t1 : (kd == 1) = false := by simpa using hd
    have T1 := Lib.hid hd
    clear hd
    by_cases hd : kd = 2
    · subst hd
      have kb := (Blk.fresh w 43 [.int .i64 2, .int .i64 out, .int .i64 k, .int .i64 st, .int .i64 pd, .int .i64 fr, .bool fz]).drew
      go_enter Try.func36, Try.ntmps36
      go_upto_region 5 with fail
      refine wp_region_held_drew (S := (fun w' => w'.cell? ⟨g1, o1, none⟩ = some (.int .i64 x) ∧ w'.cell? ⟨w.heap.size, 0, none⟩ = some (.int .i64 2) ∧ w'.cell? ⟨w.heap.size, 1, none⟩ = some (.int .i64 out) ∧ w'.cell? ⟨w.heap.size, 2, none⟩ = some (.int .i64 k) ∧ w'.cell? ⟨w.heap.size, 3, none⟩ = some (.int .i64 st) ∧ w'.cell? ⟨w.heap.size, 4, none⟩ = some (.int .i64 pd) ∧ w'.cell? ⟨w.heap.size, 5, none⟩ = some (.int .i64 fr) ∧ w'.cell? ⟨w.heap.size, 6, none⟩ = some (.bool fz))) (by kernel_rfl) (⟨hx1, kb.cell 0, kb.cell 1, kb.cell 2, kb.cell 3, kb.cell 4, kb.cell 5, kb.cell 6⟩) (fun hHeld => ?_)
      refine' wpAnyH_take (i := 0) (v := _) rfl (by kernel_rfl) (by kernel_rfl) (by kernel_rfl) (fun _ _ _ h => h) (Or.inl ⟨by rfl, ?taq10⟩) (by assumption) ?tbq10
      case taq10 =>
        intro wS hSw
        (try dsimp only at hSw)
        go_simp
        (try (with_reducible rfl))
      (try simp only [List.getElem_toArray, List.getElem_cons_zero, List.getElem_cons_succ, Act.put, List.setIfInBounds_toArray, List.set_cons_zero, List.set_cons_succ])
      refine' wpAnyH_take (i := 1) (v := _) rfl (by kernel_rfl) (by kernel_rfl) (by kernel_rfl) (fun _ _ _ h => h) (Or.inl ⟨by rfl, ?taq11⟩) (by assumption) ?tbq11
      case taq11 =>
        intro wS hSw
        (try dsimp only at hSw)
        go_simp
        (try (with_reducible rfl))
      (try simp only [List.getElem_toArray, List.getElem_cons_zero, List.getElem_cons_succ, Act.put, List.setIfInBounds_toArray, List.set_cons_zero, List.set_cons_succ])
      refine' wpAnyH_take (i := 2) (v := _) rfl (by kernel_rfl) (by kernel_rfl) (by kernel_rfl) (fun _ _ _ h => h) (Or.inl ⟨by rfl, ?taq12⟩) (by assumption) ?tbq12
      case taq12 =>
        intro wS hSw
        (try dsimp only at hSw)
        go_simp
        (try (with_reducible rfl))
      (try simp only [List.getElem_toArray, List.getElem_cons_zero, List.getElem_cons_succ, Act.put, List.setIfInBounds_toArray, List.set_cons_zero, List.set_cons_succ])
      refine' wpAnyH_take (i := 3) (v := _) rfl (by kernel_rfl) (by kernel_rfl) (by kernel_rfl) (fun _ _ _ h => h) (Or.inl ⟨by rfl, ?taq13⟩) (by assumption) ?tbq13
      case taq13 =>
        intro wS hSw
        (try dsimp only at hSw)
        go_simp
        (try (with_reducible rfl))
      (try simp only [List.getElem_toArray, List.getElem_cons_zero, List.getElem_cons_succ, Act.put, List.setIfInBounds_toArray, List.set_cons_zero, List.set_cons_succ])
      refine' wpAnyH_take (i := 4) (v := _) rfl (by kernel_rfl) (by kernel_rfl) (by kernel_rfl) (fun _ _ _ h => h) (Or.inl ⟨by rfl, ?taq14⟩) (by assumption) ?tbq14
      case taq14 =>
        intro wS hSw
        (try dsimp only at hSw)
        go_simp
        (try (with_reducible rfl))
      (try simp only [List.getElem_toArray, List.getElem_cons_zero, List.getElem_cons_succ, Act.put, List.setIfInBounds_toArray, List.set_cons_zero, List.set_cons_succ])
      refine' wpAnyH_take (i := 5) (v := _) rfl (by kernel_rfl) (by kernel_rfl) (by kernel_rfl) (fun _ _ _ h => h) (Or.inl ⟨by rfl, ?taq15⟩) (by assumption) ?tbq15
      case taq15 =>
        intro wS hSw
        (try dsimp only at hSw)
        go_simp
        (try (with_reducible rfl))
      (try simp only [List.getElem_toArray, List.getElem_cons_zero, List.getElem_cons_succ, Act.put, List.setIfInBounds_toArray, List.set_cons_zero, List.set_cons_succ])
      refine' wpAnyH_take (i := 6) (v := _) rfl (by kernel_rfl) (by kernel_rfl) (by kernel_rfl) (fun _ _ _ h => h) (Or.inl ⟨by rfl, ?taq16⟩) (by assumption) ?tbq16
      case taq16 =>
        intro wS hSw
        (try dsimp only at hSw)
        go_simp
        (try (with_reducible rfl))
      (try simp only [List.getElem_toArray, List.getElem_cons_zero, List.getElem_cons_succ, Act.put, List.setIfInBounds_toArray, List.set_cons_zero, List.set_cons_succ])
      refine' wpAnyH_take (i := 7) (v := _) rfl (by kernel_rfl) (by kernel_rfl) (by kernel_rfl) (fun _ _ _ h => h) (Or.inl ⟨by rfl, ?taq17⟩) (by assumption) ?tbq17
      case taq17 =>
        intro wS hSw
        (try dsimp only at hSw)
        go_simp
        (try (with_reducible rfl))
      (try simp only [List.getElem_toArray, List.getElem_cons_zero, List.getElem_cons_succ, Act.put, List.setIfInBounds_toArray, List.set_cons_zero, List.set_cons_succ])
      refine' wpAnyH_take (i := 8) (v := _) rfl (by kernel_rfl) (by kernel_rfl) (by kernel_rfl) (fun _ _ _ h => h) (Or.inl ⟨by rfl, ?taq18⟩) (by assumption) ?tbq18
      case taq18 =>
        intro wS hSw
        (try dsimp only at hSw)
        go_simp
        (try (with_reducible rfl))
      (try simp only [List.getElem_toArray, List.getElem_cons_zero, List.getElem_cons_succ, Act.put, List.setIfInBounds_toArray, List.set_cons_zero, List.set_cons_succ])
      refine' wpAnyH_take (i := 10) (v := _) rfl (by kernel_rfl) (by kernel_rfl) (by kernel_rfl) (fun _ _ _ h => h) (Or.inl ⟨by rfl, ?taq19⟩) (by assumption) ?tbq19
      case taq19 =>
        intro wS hSw
        (try dsimp only at hSw)
        go_simp
        (try (with_reducible rfl))
      (try simp only [List.getElem_toArray, List.getElem_cons_zero, List.getElem_cons_succ, Act.put, List.setIfInBounds_toArray, List.set_cons_zero, List.set_cons_succ])
      refine' wpAnyH_take (i := 11) (v := _) rfl (by kernel_rfl) (by kernel_rfl) (by kernel_rfl) (fun _ _ _ h => h) (Or.inl ⟨by rfl, ?taq20⟩) (by assumption) ?tbq20
      case taq20 =>
        intro wS hSw
        (try dsimp only at hSw)
        go_simp
        (try (with_reducible rfl))
      (try simp only [List.getElem_toArray, List.getElem_cons_zero, List.getElem_cons_succ, Act.put, List.setIfInBounds_toArray, List.set_cons_zero, List.set_cons_succ])
      refine wpAnyH_ready (rs := [9]) (by kernel_rfl) (by simp) ?_
      refine AllReadyH.cons rfl (fun K9 hK9 => ?_) AllReadyH.nil
      (try simp only [List.getElem_toArray, List.getElem_cons_zero, List.getElem_cons_succ])
      go_simp
      have hal := net_one (w.alloc (.cells #[.int .i64 2, .int .i64 out, .int .i64 k, .int .i64 st, .int .i64 pd, .int .i64 fr, .bool fz] 43)).drew (.cells #[.int .i64 out, .int .i64 x, .int .i64 k, .int .i64 k] 3)
      have hx5 : ((w.alloc (.cells #[.int .i64 2, .int .i64 out, .int .i64 k, .int .i64 st, .int .i64 pd, .int .i64 fr, .bool fz] 43)).alloc (.cells #[.int .i64 out, .int .i64 x, .int .i64 k, .int .i64 k] 3)).drew.cell? ⟨g1, o1, none⟩ = some (.int .i64 x) := (hal.cell (p := ⟨g1, o1, none⟩) (by show g1 < (w.alloc _).heap.size; simp; omega)).trans hx1
      have kb5 := kb.below hal kb.lt
      refine hK9.out _ _ (⟨hx5, kb5.cell 0, kb5.cell 1, kb5.cell 2, kb5.cell 3, kb5.cell 4, kb5.cell 5, kb5.cell 6⟩) (fun hHeld9 => ?_)
      clear hK9 K9
      (try simp only [List.getElem_toArray, List.getElem_cons_zero, List.getElem_cons_succ, Act.put, List.setIfInBounds_toArray, List.set_cons_zero, List.set_cons_succ])
      refine' wpAnyH_take (i := 12) (v := _) rfl (by kernel_rfl) (by kernel_rfl) (by kernel_rfl) (fun _ _ _ h => h) (Or.inl ⟨by rfl, ?taq21⟩) (by assumption) ?tbq21
      case taq21 =>
        intro wS hSw
        (try dsimp only at hSw)
        go_simp
        (try (with_reducible rfl))
      (try simp only [List.getElem_toArray, List.getElem_cons_zero, List.getElem_cons_succ, Act.put, List.setIfInBounds_toArray, List.set_cons_zero, List.set_cons_succ])
      refine' wpAnyH_take (i := 13) (v := _) rfl (by kernel_rfl) (by kernel_rfl) (by kernel_rfl) (fun _ _ _ h => h) (Or.inl ⟨by rfl, ?taq22⟩) (by assumption) ?tbq22
      case taq22 =>
        intro wS hSw
        (try dsimp only at hSw)
        go_simp
        (try (with_reducible rfl))
      (try simp only [List.getElem_toArray, List.getElem_cons_zero, List.getElem_cons_succ, Act.put, List.setIfInBounds_toArray, List.set_cons_zero, List.set_cons_succ])
      refine wpAnyH_done (by kernel_rfl) ?_ _
      go_wp2
      refine bodyPost_ret (v := .tuple #[.slice (some ⟨w.heap.size + 1, 0, none⟩) 4 4, .int .i64 out]) (by simp [results, Try.results36, go_sem]) rfl ?_
      have hs : dimsI ⟨2, out, k, st, pd, fr, fz⟩ d = ([out, x, k, k], out) := by unfold dimsI; rw [HX0.out]; rfl
      rw [hs]
      exact ⟨_, _, rfl, lit_reads (w1 := (w.alloc (.cells #[.int .i64 2, .int .i64 out, .int .i64 k, .int .i64 st, .int .i64 pd, .int .i64 fr, .bool fz] 43)).drew) (cs := [.int .i64 out, .int .i64 x, .int .i64 k, .int .i64 k]) (e := [out, x, k, k]) (n := 4) rfl rfl (by omega) HSZ.out, HB0.out.drew.alloc (by have := HSZ.out; omega) _⟩
    · have t2 : (kd == 2) = false := by simpa using hd
      have T2 := Lib.hid hd
      clear hd
      have HS : Hid (dimsI ⟨kd, out, k, st, pd, fr, fz⟩ d = ([], 0)) := Lib.hid (by unfold dimsI; rw [if_neg T1.out, if_neg T2.out])
      go_enter Try.func36, Try.ntmps36
      go_wp2
      refine bodyPost_ret (v := .tuple #[.slice none 0 0, .int .i64 0]) (by simp [results, Try.results36, go_sem]) rfl ?_
      rw [HS.out]
      exact ⟨none, 0, rfl, Reads.nil_ _ _, HB0.out⟩

set_option maxHeartbeats 3200000 in
set_option maxRecDepth 100000 in
theorem rlengths_any (ah : Int) (kd out k st pd fr : Int) (fz : Bool) (d e : List Int) (dv ev : Value) (bt : Int) (w : World) (B : Nat) (hB : B ≤ w.heap.size) (hd : Reads w B dv (ints .i64 d)) (he : Reads w B ev (ints .i64 e))
    (hgd : GoodD d) (hge : GoodD e) (hbt : 1 ≤ bt ∧ bt ≤ 8) (hma : mayL ⟨kd, out, k, st, pd, fr, fz⟩ ah = true) (hc3 : kd = 2 → e.length = 3) (r : List Int) (hr : (sumsI ⟨kd, out, k, st, pd, fr, fz⟩ d e bt).1 = r) :
    Calls Try.prog 38 #[.agg #[.int .i64 kd, .int .i64 out, .int .i64 k, .int .i64 st, .int .i64 pd, .int .i64 fr, .bool fz], dv, ev, .int .i64 bt] w (Lens w r) := by
  subst hr
  obtain ⟨A', c', rfl, _, _⟩ := he.form
  obtain ⟨A, c, rfl, _, _⟩ := hd.form
  simp only [length_ints] at *
  have hb0 := net_one w (.cells #[.int .i64 kd, .int .i64 out, .int .i64 k, .int .i64 st, .int .i64 pd, .int .i64 fr, .bool fz] 43)
  have HB0 := Lib.hid hb0
  have hpos := hgd.pos
  obtain ⟨x, hx⟩ : ∃ x, d[0]? = some x := ⟨d[0]'(by omega), List.getElem?_eq_getElem (by omega)⟩
  obtain ⟨g1, o1, rfl, hg1, hx1⟩ := cells_of (hd.below (hb0.mono hB)) hx
  have hx0 : d.headD 0 = x := by cases d with
    | nil => simp at hx
    | cons y d => simp at hx ⊢; exact hx
  have hxb := hgd.bd x (List.mem_of_getElem? hx)
  have z0 : (0 : Int) < (d.length : Int) := by omega
  have HX0 := Lib.hid hx0
  have HSZ : Hid ((w.alloc (.cells #[.int .i64 kd, .int .i64 out, .int .i64 k, .int .i64 st, .int .i64 pd, .int .i64 fr, .bool fz] 43)).drew.heap.size = w.heap.size + 1) := Lib.hid (by show (w.alloc _).heap.size = _; simp)
  obtain ⟨hx2, hx3⟩ := hxb
  have HE := Lib.hid (he.below (hb0.mono hB))
  have HM := Lib.hid hma
  have HC := Lib.hid hc3
  have HGE := Lib.hid hge
  obtain ⟨hbt0, hbt1⟩ := hbt
  clear hx hx0 hd he hgd hge hma hc3 hb0
  by_cases hd : kd = 1
  · subst hd
    have kb := (Blk.fresh w 43 [.int .i64 1, .int .i64 out, .int .i64 k, .int .i64 st, .int .i64 pd, .int .i64 fr, .bool fz]).drew
    go_enter Try.func38, Try.ntmps38
    go_upto_region 3 with fail
    refine wp_region_held_drew (S := (fun w' => w'.cell? ⟨g1, o1, none⟩ = some (.int .i64 x) ∧ w'.cell? ⟨w.heap.size, 0, none⟩ = some (.int .i64 1) ∧ w'.cell? ⟨w.heap.size, 1, none⟩ = some (.int .i64 out) ∧ w'.cell? ⟨w.heap.size, 2, none⟩ = some (.int .i64 k) ∧ w'.cell? ⟨w.heap.size, 3, none⟩ = some (.int .i64 st) ∧ w'.cell? ⟨w.heap.size, 4, none⟩ = some (.int .i64 pd) ∧ w'.cell? ⟨w.heap.size, 5, none⟩ = some (.int .i64 fr) ∧ w'.cell? ⟨w.heap.size, 6, none⟩ = some (.bool fz))) (by kernel_rfl) (⟨hx1, kb.cell 0, kb.cell 1, kb.cell 2, kb.cell 3, kb.cell 4, kb.cell 5, kb.cell 6⟩) (fun hHeld => ?_)
    refine' wpAnyH_take (i := 0) (v := _) rfl (by kernel_rfl) (by kernel_rfl) (by kernel_rfl) (fun _ _ _ h => h) (Or.inl ⟨by rfl, ?taq23⟩) (by assumption) ?tbq23
    case taq23 =>
      intro wS hSw
      (try dsimp only at hSw)
      go_simp
      (try (with_reducible rfl))
    (try simp only [List.getElem_toArray, List.getElem_cons_zero, List.getElem_cons_succ, Act.put, List.setIfInBounds_toArray, List.set_cons_zero, List.set_cons_succ])
    refine' wpAnyH_take (i := 1) (v := _) rfl (by kernel_rfl) (by kernel_rfl) (by kernel_rfl) (fun _ _ _ h => h) (Or.inl ⟨by rfl, ?taq24⟩) (by assumption) ?tbq24
    case taq24 =>
      intro wS hSw
      (try dsimp only at hSw)
      go_simp
      (try (with_reducible rfl))
    (try simp only [List.getElem_toArray, List.getElem_cons_zero, List.getElem_cons_succ, Act.put, List.setIfInBounds_toArray, List.set_cons_zero, List.set_cons_succ])
    refine' wpAnyH_take (i := 2) (v := _) rfl (by kernel_rfl) (by kernel_rfl) (by kernel_rfl) (fun _ _ _ h => h) (Or.inl ⟨by rfl, ?taq25⟩) (by assumption) ?tbq25
    case taq25 =>
      intro wS hSw
      (try dsimp only at hSw)
      go_simp
      (try (with_reducible rfl))
    (try simp only [List.getElem_toArray, List.getElem_cons_zero, List.getElem_cons_succ, Act.put, List.setIfInBounds_toArray, List.set_cons_zero, List.set_cons_succ])
    refine' wpAnyH_take (i := 3) (v := _) rfl (by kernel_rfl) (by kernel_rfl) (by kernel_rfl) (fun _ _ _ h => h) (Or.inl ⟨by rfl, ?taq26⟩) (by assumption) ?tbq26
    case taq26 =>
      intro wS hSw
      (try dsimp only at hSw)
      go_simp
      (try (with_reducible rfl))
    (try simp only [List.getElem_toArray, List.getElem_cons_zero, List.getElem_cons_succ, Act.put, List.setIfInBounds_toArray, List.set_cons_zero, List.set_cons_succ])
    refine' wpAnyH_take (i := 4) (v := _) rfl (by kernel_rfl) (by kernel_rfl) (by kernel_rfl) (fun _ _ _ h => h) (Or.inl ⟨by rfl, ?taq27⟩) (by assumption) ?tbq27
    case taq27 =>
      intro wS hSw
      (try dsimp only at hSw)
      go_simp
      (try (with_reducible rfl))
    (try simp only [List.getElem_toArray, List.getElem_cons_zero, List.getElem_cons_succ, Act.put, List.setIfInBounds_toArray, List.set_cons_zero, List.set_cons_succ])
    refine' wpAnyH_take (i := 5) (v := _) rfl (by kernel_rfl) (by kernel_rfl) (by kernel_rfl) (fun _ _ _ h => h) (Or.inl ⟨by rfl, ?taq28⟩) (by assumption) ?tbq28
    case taq28 =>
      intro wS hSw
      (try dsimp only at hSw)
      go_simp
      (try (with_reducible rfl))
    (try simp only [List.getElem_toArray, List.getElem_cons_zero, List.getElem_cons_succ, Act.put, List.setIfInBounds_toArray, List.set_cons_zero, List.set_cons_succ])
    refine wpAnyH_ready (rs := [6]) (by kernel_rfl) (by simp) ?_
    refine AllReadyH.cons rfl (fun K9 hK9 => ?_) AllReadyH.nil
    (try simp only [List.getElem_toArray, List.getElem_cons_zero, List.getElem_cons_succ])
    go_simp
    have hal := net_one (w.alloc (.cells #[.int .i64 1, .int .i64 out, .int .i64 k, .int .i64 st, .int .i64 pd, .int .i64 fr, .bool fz] 43)).drew (.cells #[.int .i64 x, .int .i64 out, .int .i64 bt] 3)
    have hx5 : ((w.alloc (.cells #[.int .i64 1, .int .i64 out, .int .i64 k, .int .i64 st, .int .i64 pd, .int .i64 fr, .bool fz] 43)).alloc (.cells #[.int .i64 x, .int .i64 out, .int .i64 bt] 3)).drew.cell? ⟨g1, o1, none⟩ = some (.int .i64 x) := (hal.cell (p := ⟨g1, o1, none⟩) (by show g1 < (w.alloc _).heap.size; simp; omega)).trans hx1
    have kb5 := kb.below hal kb.lt
    refine hK9.out _ _ (⟨hx5, kb5.cell 0, kb5.cell 1, kb5.cell 2, kb5.cell 3, kb5.cell 4, kb5.cell 5, kb5.cell 6⟩) (fun hHeld9 => ?_)
    clear hK9 K9
    (try simp only [List.getElem_toArray, List.getElem_cons_zero, List.getElem_cons_succ, Act.put, List.setIfInBounds_toArray, List.set_cons_zero, List.set_cons_succ])
    refine' wpAnyH_take (i := 7) (v := _) rfl (by kernel_rfl) (by kernel_rfl) (by kernel_rfl) (fun _ _ _ h => h) (Or.inl ⟨by rfl, ?taq29⟩) (by assumption) ?tbq29
    case taq29 =>
      intro wS hSw
      (try dsimp only at hSw)
      go_simp
      (try (with_reducible rfl))
    (try simp only [List.getElem_toArray, List.getElem_cons_zero, List.getElem_cons_succ, Act.put, List.setIfInBounds_toArray, List.set_cons_zero, List.set_cons_succ])
    refine wpAnyH_done (by kernel_rfl) ?_ _
    go_wp2
    go_ret
    have hs : (sumsI ⟨1, out, k, st, pd, fr, fz⟩ d e bt).1 = [x, out, bt] := by unfold sumsI; rw [HX0.out]; rfl
    rw [hs]
    exact ⟨_, _, rfl, lit_reads (w1 := (w.alloc (.cells #[.int .i64 1, .int .i64 out, .int .i64 k, .int .i64 st, .int .i64 pd, .int .i64 fr, .bool fz] 43)).drew) (cs := [.int .i64 x, .int .i64 out, .int .i64 bt]) (e := [x, out, bt]) (n := 3) rfl rfl (by omega) HSZ.out, HB0.out.drew.alloc (by have := HSZ.out; omega) _⟩
  · have t1 : (kd == 1) = false := by simpa using hd
    have T1 := Lib.hid hd
    clear hd
    by_cases hd : kd = 2
    · subst hd
      have hob : (1 ≤ out ∧ out ≤ 8) ∧ (1 ≤ k ∧ k ≤ 5) := by
        have := HM.out
        unfold mayL at this
        simp only [Bool.and_eq_true] at this
        have h1 : ((inI out 1 8 && windowI ⟨2, out, k, st, pd, fr, fz⟩) && inI pd 0 (k - 1)) = true := this.1
        simp only [Bool.and_eq_true, windowI] at h1
        exact ⟨inI_of h1.1.1, inI_of h1.1.2.1⟩
      obtain ⟨⟨hob0, hob1⟩, hk0, hk1⟩ := hob
      have he3 := HC.out rfl
      obtain ⟨y, hy⟩ : ∃ y, e[1]? = some y := ⟨e[1]'(by omega), List.getElem?_eq_getElem (by omega)⟩
      obtain ⟨z, hz⟩ : ∃ z, e[2]? = some z := ⟨e[2]'(by omega), List.getElem?_eq_getElem (by omega)⟩
      obtain ⟨g2, o2, rfl, hg2, hy1⟩ := cells_of HE.out hy
      obtain ⟨g3, o3, he4, hg3, hz1⟩ := cells_of HE.out hz
      injection he4 with he4
      injection he4 with he5 he6
      subst he5 he6
      have hyb := HGE.out.bd y (List.mem_of_getElem? hy)
      have hzb := HGE.out.bd z (List.mem_of_getElem? hz)
      obtain ⟨hyb0, hyb1⟩ := hyb
      obtain ⟨hzb0, hzb1⟩ := hzb
      have y0 : (1 : Int) < (e.length : Int) := by omega
      have y1 : (2 : Int) < (e.length : Int) := by omega
      have HY : Hid (e.getD 1 0 = y) := Lib.hid (by rw [List.getD_eq_getElem?_getD, hy]; rfl)
      have HZ : Hid (e.getD 2 0 = z) := Lib.hid (by rw [List.getD_eq_getElem?_getD, hz]; rfl)
      have m1 := mul_in2 (x := x) (y := k) (a := 4096) (b := 5) (by omega) (by omega) (by omega) (by omega)
      have m2 := mul_in2 (x := x * k) (y := k) (a := 4096 * 5) (b := 5) m1.1 m1.2 (by omega) (by omega)
      have m3 := mul_in2 (x := out) (y := k) (a := 8) (b := 5) (by omega) (by omega) (by omega) (by omega)
      have m4 := mul_in2 (x := out * k) (y := k) (a := 8 * 5) (b := 5) m3.1 m3.2 (by omega) (by omega)
      have m5 := mul_in2 (x := bt) (y := y) (a := 8) (b := 4096) (by omega) (by omega) (by omega) (by omega)
      have m6 := mul_in2 (x := bt * y) (y := z) (a := 8 * 4096) (b := 4096) m5.1 m5.2 (by omega) (by omega)
      have HW1 : Hid (IntKind.i64.wrap (x * k) = x * k) := Lib.hid (IntWalk.i64_in _ (by omega))
      have HW2 : Hid (IntKind.i64.wrap (x * k * k) = x * k * k) := Lib.hid (IntWalk.i64_in _ (by omega))
      have HW3 : Hid (IntKind.i64.wrap (out * k) = out * k) := Lib.hid (IntWalk.i64_in _ (by omega))
      have HW4 : Hid (IntKind.i64.wrap (out * k * k) = out * k * k) := Lib.hid (IntWalk.i64_in _ (by omega))
      have HW5 : Hid (IntKind.i64.wrap (bt * y) = bt * y) := Lib.hid (IntWalk.i64_in _ (by omega))
      have HW6 : Hid (IntKind.i64.wrap (bt * y * z) = bt * y * z) := Lib.hid (IntWalk.i64_in _ (by omega))
      have kb := (Blk.fresh w 43 [.int .i64 2, .int .i64 out, .int .i64 k, .int .i64 st, .int .i64 pd, .int .i64 fr, .bool fz]).drew
      clear m1 m2 m3 m4 m5 m6 hy hz he3
      go_enter Try.func38, Try.ntmps38
      go_upto_region 5 with fail
      refine wp_region_held_drew (S := (fun w' => w'.cell? ⟨g1, o1, none⟩ = some (.int .i64 x) ∧ w'.cell? ⟨w.heap.size, 0, none⟩ = some (.int .i64 2) ∧ w'.cell? ⟨w.heap.size, 1, none⟩ = some (.int .i64 out) ∧ w'.cell? ⟨w.heap.size, 2, none⟩ = some (.int .i64 k) ∧ w'.cell? ⟨w.heap.size, 3, none⟩ = some (.int .i64 st) ∧ w'.cell? ⟨w.heap.size, 4, none⟩ = some (.int .i64 pd) ∧ w'.cell? ⟨w.heap.size, 5, none⟩ = some (.int .i64 fr) ∧ w'.cell? ⟨w.heap.size, 6, none⟩ = some (.bool fz) ∧ w'.cell? ⟨g2, o2 + 1, none⟩ = some (.int .i64 y) ∧ w'.cell? ⟨g2, o2 + 2, none⟩ = some (.int .i64 z))) (by kernel_rfl) (⟨hx1, kb.cell 0, kb.cell 1, kb.cell 2, kb.cell 3, kb.cell 4, kb.cell 5, kb.cell 6, hy1, hz1⟩) (fun hHeld => ?_)
      refine' wpAnyH_take (i := 0) (v := _) rfl (by kernel_rfl) (by kernel_rfl) (by kernel_rfl) (fun _ _ _ h => h) (Or.inl ⟨by rfl, ?taq30⟩) (by assumption) ?tbq30
      case taq30 =>
        intro wS hSw
        (try dsimp only at hSw)
        go_simp
        (try (with_reducible rfl))
      (try simp only [List.getElem_toArray, List.getElem_cons_zero, List.getElem_cons_succ, Act.put, List.setIfInBounds_toArray, List.set_cons_zero, List.set_cons_succ])
      refine' wpAnyH_take (i := 1) (v := _) rfl (by kernel_rfl) (by kernel_rfl) (by kernel_rfl) (fun _ _ _ h => h) (Or.inl ⟨by rfl, ?taq31⟩) (by assumption) ?tbq31
      case taq31 =>
        intro wS hSw
        (try dsimp only at hSw)
        go_simp
        (try (with_reducible rfl))
      (try simp only [List.getElem_toArray, List.getElem_cons_zero, List.getElem_cons_succ, Act.put, List.setIfInBounds_toArray, List.set_cons_zero, List.set_cons_succ])
      refine' wpAnyH_take (i := 2) (v := _) rfl (by kernel_rfl) (by kernel_rfl) (by kernel_rfl) (fun _ _ _ h => h) (Or.inl ⟨by rfl, ?taq32⟩) (by assumption) ?tbq32
      case taq32 =>
        intro wS hSw
        (try dsimp only at hSw)
        go_simp
        (try (with_reducible rfl))
      (try simp only [List.getElem_toArray, List.getElem_cons_zero, List.getElem_cons_succ, Act.put, List.setIfInBounds_toArray, List.set_cons_zero, List.set_cons_succ])
      refine' wpAnyH_take (i := 3) (v := _) rfl (by kernel_rfl) (by kernel_rfl) (by kernel_rfl) (fun _ _ _ h => h) (Or.inl ⟨by rfl, ?taq33⟩) (by assumption) ?tbq33
      case taq33 =>
        intro wS hSw
        (try dsimp only at hSw)
        go_simp
        (try (with_reducible rfl))
      (try simp only [List.getElem_toArray, List.getElem_cons_zero, List.getElem_cons_succ, Act.put, List.setIfInBounds_toArray, List.set_cons_zero, List.set_cons_succ])
      refine' wpAnyH_take (i := 4) (v := _) rfl (by kernel_rfl) (by kernel_rfl) (by kernel_rfl) (fun _ _ _ h => h) (Or.inl ⟨by rfl, ?taq34⟩) (by assumption) ?tbq34
      case taq34 =>
        intro wS hSw
        (try dsimp only at hSw)
        go_simp
        (try (with_reducible rfl))
      (try simp only [List.getElem_toArray, List.getElem_cons_zero, List.getElem_cons_succ, Act.put, List.setIfInBounds_toArray, List.set_cons_zero, List.set_cons_succ])
      refine' wpAnyH_take (i := 5) (v := _) rfl (by kernel_rfl) (by kernel_rfl) (by kernel_rfl) (fun _ _ _ h => h) (Or.inl ⟨by rfl, ?taq35⟩) (by assumption) ?tbq35
      case taq35 =>
        intro wS hSw
        (try dsimp only at hSw)
        go_simp
        (try (with_reducible rfl))
      (try simp only [List.getElem_toArray, List.getElem_cons_zero, List.getElem_cons_succ, Act.put, List.setIfInBounds_toArray, List.set_cons_zero, List.set_cons_succ])
      refine' wpAnyH_take (i := 6) (v := _) rfl (by kernel_rfl) (by kernel_rfl) (by kernel_rfl) (fun _ _ _ h => h) (Or.inl ⟨by rfl, ?taq36⟩) (by assumption) ?tbq36
      case taq36 =>
        intro wS hSw
        (try dsimp only at hSw)
        go_simp
        (try (with_reducible rfl))
      (try simp only [List.getElem_toArray, List.getElem_cons_zero, List.getElem_cons_succ, Act.put, List.setIfInBounds_toArray, List.set_cons_zero, List.set_cons_succ])
      refine' wpAnyH_take (i := 7) (v := _) rfl (by kernel_rfl) (by kernel_rfl) (by kernel_rfl) (fun _ _ _ h => h) (Or.inl ⟨by rfl, ?taq37⟩) (by assumption) ?tbq37
      case taq37 =>
        intro wS hSw
        (try dsimp only at hSw)
        go_simp
        (try (with_reducible rfl))
      (try simp only [List.getElem_toArray, List.getElem_cons_zero, List.getElem_cons_succ, Act.put, List.setIfInBounds_toArray, List.set_cons_zero, List.set_cons_succ])
      refine' wpAnyH_take (i := 8) (v := _) rfl (by kernel_rfl) (by kernel_rfl) (by kernel_rfl) (fun _ _ _ h => h) (Or.inl ⟨by rfl, ?taq38⟩) (by assumption) ?tbq38
      case taq38 =>
        intro wS hSw
        (try dsimp only at hSw)
        go_simp
        (try (with_reducible rfl))
      (try simp only [List.getElem_toArray, List.getElem_cons_zero, List.getElem_cons_succ, Act.put, List.setIfInBounds_toArray, List.set_cons_zero, List.set_cons_succ])
      refine' wpAnyH_take (i := 9) (v := _) rfl (by kernel_rfl) (by kernel_rfl) (by kernel_rfl) (fun _ _ _ h => h) (Or.inl ⟨by rfl, ?taq39⟩) (by assumption) ?tbq39
      case taq39 =>
        intro wS hSw
        (try dsimp only at hSw)
        go_simp
        (try (with_reducible rfl))
      (try simp only [List.getElem_toArray, List.getElem_cons_zero, List.getElem_cons_succ, Act.put, List.setIfInBounds_toArray, List.set_cons_zero, List.set_cons_succ])
      refine' wpAnyH_take (i := 10) (v := _) rfl (by kernel_rfl) (by kernel_rfl) (by kernel_rfl) (fun _ _ _ h => h) (Or.inl ⟨by rfl, ?taq40⟩) (by assumption) ?tbq40
      case taq40 =>
        intro wS hSw
        (try dsimp only at hSw)
        go_simp
        (try (with_reducible rfl))
      (try simp only [List.getElem_toArray, List.getElem_cons_zero, List.getElem_cons_succ, Act.put, List.setIfInBounds_toArray, List.set_cons_zero, List.set_cons_succ])
      refine' wpAnyH_take (i := 11) (v := _) rfl (by kernel_rfl) (by kernel_rfl) (by kernel_rfl) (fun _ _ _ h => h) (Or.inl ⟨by rfl, ?taq41⟩) (by assumption) ?tbq41
      case taq41 =>
        intro wS hSw
        (try dsimp only at hSw)
        go_simp
        (try (with_reducible rfl))
      (try simp only [List.getElem_toArray, List.getElem_cons_zero, List.getElem_cons_succ, Act.put, List.setIfInBounds_toArray, List.set_cons_zero, List.set_cons_succ])
      refine' wpAnyH_take (i := 12) (v := _) rfl (by kernel_rfl) (by kernel_rfl) (by kernel_rfl) (fun _ _ _ h => h) (Or.inl ⟨by rfl, ?taq42⟩) (by assumption) ?tbq42
      case taq42 =>
        intro wS hSw
        (try dsimp only at hSw)
        go_simp
        (try (with_reducible rfl))
      (try simp only [List.getElem_toArray, List.getElem_cons_zero, List.getElem_cons_succ, Act.put, List.setIfInBounds_toArray, List.set_cons_zero, List.set_cons_succ])
      refine' wpAnyH_take (i := 13) (v := _) rfl (by kernel_rfl) (by kernel_rfl) (by kernel_rfl) (fun _ _ _ h => h) (Or.inl ⟨by rfl, ?taq43⟩) (by assumption) ?tbq43
      case taq43 =>
        intro wS hSw
        (try dsimp only at hSw)
        go_simp
        (try (with_reducible rfl))
      (try simp only [List.getElem_toArray, List.getElem_cons_zero, List.getElem_cons_succ, Act.put, List.setIfInBounds_toArray, List.set_cons_zero, List.set_cons_succ])
      refine' wpAnyH_take (i := 14) (v := _) rfl (by kernel_rfl) (by kernel_rfl) (by kernel_rfl) (fun _ _ _ h => h) (Or.inl ⟨by rfl, ?taq44⟩) (by assumption) ?tbq44
      case taq44 =>
        intro wS hSw
        (try dsimp only at hSw)
        go_simp
        (try (with_reducible rfl))
      (try simp only [List.getElem_toArray, List.getElem_cons_zero, List.getElem_cons_succ, Act.put, List.setIfInBounds_toArray, List.set_cons_zero, List.set_cons_succ])
      refine' wpAnyH_take (i := 15) (v := _) rfl (by kernel_rfl) (by kernel_rfl) (by kernel_rfl) (fun _ _ _ h => h) (Or.inl ⟨by rfl, ?taq45⟩) (by assumption) ?tbq45
      case taq45 =>
        intro wS hSw
        (try dsimp only at hSw)
        go_simp
        (try (with_reducible rfl))
      (try simp only [List.getElem_toArray, List.getElem_cons_zero, List.getElem_cons_succ, Act.put, List.setIfInBounds_toArray, List.set_cons_zero, List.set_cons_succ])
      refine' wpAnyH_take (i := 16) (v := _) rfl (by kernel_rfl) (by kernel_rfl) (by kernel_rfl) (fun _ _ _ h => h) (Or.inl ⟨by rfl, ?taq46⟩) (by assumption) ?tbq46
      case taq46 =>
        intro wS hSw
        (try dsimp only at hSw)
        go_simp
        (try (with_reducible rfl))
      (try simp only [List.getElem_toArray, List.getElem_cons_zero, List.getElem_cons_succ, Act.put, List.setIfInBounds_toArray, List.set_cons_zero, List.set_cons_succ])
      refine' wpAnyH_take (i := 17) (v := _) rfl (by kernel_rfl) (by kernel_rfl) (by kernel_rfl) (fun _ _ _ h => h) (Or.inl ⟨by rfl, ?taq47⟩) (by assumption) ?tbq47
      case taq47 =>
        intro wS hSw
        (try dsimp only at hSw)
        go_simp
        (try (with_reducible rfl))
      (try simp only [List.getElem_toArray, List.getElem_cons_zero, List.getElem_cons_succ, Act.put, List.setIfInBounds_toArray, List.set_cons_zero, List.set_cons_succ])
      refine' wpAnyH_take (i := 18) (v := _) rfl (by kernel_rfl) (by kernel_rfl) (by kernel_rfl) (fun _ _ _ h => h) (Or.inl ⟨by rfl, ?taq48⟩) (by assumption) ?tbq48
      case taq48 =>
        intro wS hSw
        (try dsimp only at hSw)
        go_simp
        (try (with_reducible rfl))
      (try simp only [List.getElem_toArray, List.getElem_cons_zero, List.getElem_cons_succ, Act.put, List.setIfInBounds_toArray, List.set_cons_zero, List.set_cons_succ])
      refine' wpAnyH_take (i := 19) (v := _) rfl (by kernel_rfl) (by kernel_rfl) (by kernel_rfl) (fun _ _ _ h => h) (Or.inl ⟨by rfl, ?taq49⟩) (by assumption) ?tbq49
      case taq49 =>
        intro wS hSw
        (try dsimp only at hSw)
        go_simp
        (try (with_reducible rfl))
      (try simp only [List.getElem_toArray, List.getElem_cons_zero, List.getElem_cons_succ, Act.put, List.setIfInBounds_toArray, List.set_cons_zero, List.set_cons_succ])
      refine' wpAnyH_take (i := 20) (v := _) rfl (by kernel_rfl) (by kernel_rfl) (by kernel_rfl) (fun _ _ _ h => h) (Or.inl ⟨by rfl, ?taq50⟩) (by assumption) ?tbq50
      case taq50 =>
        intro wS hSw
        (try dsimp only at hSw)
        go_simp
        (try (with_reducible rfl))
      (try simp only [List.getElem_toArray, List.getElem_cons_zero, List.getElem_cons_succ, Act.put, List.setIfInBounds_toArray, List.set_cons_zero, List.set_cons_succ])
      refine' wpAnyH_take (i := 21) (v := _) rfl (by kernel_rfl) (by kernel_rfl) (by kernel_rfl) (fun _ _ _ h => h) (Or.inl ⟨by rfl, ?taq51⟩) (by assumption) ?tbq51
      case taq51 =>
        intro wS hSw
        (try dsimp only at hSw)
        go_simp
        (try (with_reducible rfl))
      (try simp only [List.getElem_toArray, List.getElem_cons_zero, List.getElem_cons_succ, Act.put, List.setIfInBounds_toArray, List.set_cons_zero, List.set_cons_succ])
      refine' wpAnyH_take (i := 22) (v := _) rfl (by kernel_rfl) (by kernel_rfl) (by kernel_rfl) (fun _ _ _ h => h) (Or.inl ⟨by rfl, ?taq52⟩) (by assumption) ?tbq52
      case taq52 =>
        intro wS hSw
        (try dsimp only at hSw)
        go_simp
        (try (with_reducible rfl))
      (try simp only [List.getElem_toArray, List.getElem_cons_zero, List.getElem_cons_succ, Act.put, List.setIfInBounds_toArray, List.set_cons_zero, List.set_cons_succ])
      refine' wpAnyH_take (i := 23) (v := _) rfl (by kernel_rfl) (by kernel_rfl) (by kernel_rfl) (fun _ _ _ h => h) (Or.inl ⟨by rfl, ?taq53⟩) (by assumption) ?tbq53
      case taq53 =>
        intro wS hSw
        (try dsimp only at hSw)
        go_simp
        (try (with_reducible rfl))
      (try simp only [List.getElem_toArray, List.getElem_cons_zero, List.getElem_cons_succ, Act.put, List.setIfInBounds_toArray, List.set_cons_zero, List.set_cons_succ])
      refine' wpAnyH_take (i := 24) (v := _) rfl (by kernel_rfl) (by kernel_rfl) (by kernel_rfl) (fun _ _ _ h => h) (Or.inl ⟨by rfl, ?taq54⟩) (by assumption) ?tbq54
      case taq54 =>
        intro wS hSw
        (try dsimp only at hSw)
        go_simp
        (try (with_reducible rfl))
      (try simp only [List.getElem_toArray, List.getElem_cons_zero, List.getElem_cons_succ, Act.put, List.setIfInBounds_toArray, List.set_cons_zero, List.set_cons_succ])
      refine' wpAnyH_take (i := 25) (v := _) rfl (by kernel_rfl) (by kernel_rfl) (by kernel_rfl) (fun _ _ _ h => h) (Or.inl ⟨by rfl, ?taq55⟩) (by assumption) ?tbq55
      case taq55 =>
        intro wS hSw
        (try dsimp only at hSw)
        go_simp
        (try (with_reducible rfl))
      (try simp only [List.getElem_toArray, List.getElem_cons_zero, List.getElem_cons_succ, Act.put, List.setIfInBounds_toArray, List.set_cons_zero, List.set_cons_succ])
      have w1 := HW1.out
      have w2 := HW2.out
      have w3 := HW3.out
      have w4 := HW4.out
      have w5 := HW5.out
      have w6 := HW6.out
      rw [w1, w2, w3, w4, w5, w6]
      clear w1 w2 w3 w4 w5 w6
      refine wpAnyH_ready (rs := [26]) (by kernel_rfl) (by simp) ?_
      refine AllReadyH.cons rfl (fun K9 hK9 => ?_) AllReadyH.nil
      (try simp only [List.getElem_toArray, List.getElem_cons_zero, List.getElem_cons_succ])
      go_simp
      have hal := net_one (w.alloc (.cells #[.int .i64 2, .int .i64 out, .int .i64 k, .int .i64 st, .int .i64 pd, .int .i64 fr, .bool fz] 43)).drew (.cells #[.int .i64 (x * k * k), .int .i64 (out * k * k), .int .i64 (bt * y * z)] 3)
      have hx5 : ((w.alloc (.cells #[.int .i64 2, .int .i64 out, .int .i64 k, .int .i64 st, .int .i64 pd, .int .i64 fr, .bool fz] 43)).alloc (.cells #[.int .i64 (x * k * k), .int .i64 (out * k * k), .int .i64 (bt * y * z)] 3)).drew.cell? ⟨g1, o1, none⟩ = some (.int .i64 x) := (hal.cell (p := ⟨g1, o1, none⟩) (by show g1 < (w.alloc _).heap.size; simp; omega)).trans hx1
      have kb5 := kb.below hal kb.lt
      have hy5 : ((w.alloc (.cells #[.int .i64 2, .int .i64 out, .int .i64 k, .int .i64 st, .int .i64 pd, .int .i64 fr, .bool fz] 43)).alloc (.cells #[.int .i64 (x * k * k), .int .i64 (out * k * k), .int .i64 (bt * y * z)] 3)).drew.cell? ⟨g2, o2 + 1, none⟩ = some (.int .i64 y) := (hal.cell (p := ⟨g2, o2 + 1, none⟩) (by show g2 < (w.alloc _).heap.size; simp; omega)).trans hy1
      have hz5 : ((w.alloc (.cells #[.int .i64 2, .int .i64 out, .int .i64 k, .int .i64 st, .int .i64 pd, .int .i64 fr, .bool fz] 43)).alloc (.cells #[.int .i64 (x * k * k), .int .i64 (out * k * k), .int .i64 (bt * y * z)] 3)).drew.cell? ⟨g2, o2 + 2, none⟩ = some (.int .i64 z) := (hal.cell (p := ⟨g2, o2 + 2, none⟩) (by show g2 < (w.alloc _).heap.size; simp; omega)).trans hz1
      refine hK9.out _ _ (⟨hx5, kb5.cell 0, kb5.cell 1, kb5.cell 2, kb5.cell 3, kb5.cell 4, kb5.cell 5, kb5.cell 6, hy5, hz5⟩) (fun hHeld9 => ?_)
      clear hK9 K9
      (try simp only [List.getElem_toArray, List.getElem_cons_zero, List.getElem_cons_succ, Act.put, List.setIfInBounds_toArray, List.set_cons_zero, List.set_cons_succ])
      refine' wpAnyH_take (i := 27) (v := _) rfl (by kernel_rfl) (by kernel_rfl) (by kernel_rfl) (fun _ _ _ h => h) (Or.inl ⟨by rfl, ?taq56⟩) (by assumption) ?tbq56
      case taq56 =>
        intro wS hSw
        (try dsimp only at hSw)
        go_simp
        (try (with_reducible rfl))
      (try simp only [List.getElem_toArray, List.getElem_cons_zero, List.getElem_cons_succ, Act.put, List.setIfInBounds_toArray, List.set_cons_zero, List.set_cons_succ])
      refine wpAnyH_done (by kernel_rfl) ?_ _
      go_wp2
      go_ret
      have hs : (sumsI ⟨2, out, k, st, pd, fr, fz⟩ d e bt).1 = [x * k * k, out * k * k, bt * y * z] := by unfold sumsI; rw [HX0.out, HY.out, HZ.out]; show [x * (k * k), out * (k * k), bt * y * z] = _; rw [Int.mul_assoc x k k, Int.mul_assoc out k k]
      rw [hs]
      exact ⟨_, _, rfl, lit_reads (w1 := (w.alloc (.cells #[.int .i64 2, .int .i64 out, .int .i64 k, .int .i64 st, .int .i64 pd, .int .i64 fr, .bool fz] 43)).drew) (cs := [.int .i64 (x * k * k), .int .i64 (out * k * k), .int .i64 (bt * y * z)]) (e := [x * k * k, out * k * k, bt * y * z]) (n := 3) rfl rfl (by omega) HSZ.out, HB0.out.drew.alloc (by have := HSZ.out; omega) _⟩
    · have t2 : (kd == 2) = false := by simpa using hd
      have T2 := Lib.hid hd
      clear hd
      have HS : Hid ((sumsI ⟨kd, out, k, st, pd, fr, fz⟩ d e bt).1 = []) := Lib.hid (by unfold sumsI; rw [if_neg T1.out, if_neg T2.out])
      go_enter Try.func38, Try.ntmps38
      go_wp2
      go_ret
      rw [HS.out]
      exact ⟨none, 0, rfl, Reads.nil_ _ _, HB0.out⟩
end Go.Proofs.Ytkileiikffomlaa
