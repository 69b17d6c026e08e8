/- Contracts of params.of, params.Dims. -/
import Derived.Test.YtkileiikffomlaaNetRSums
import Derived.Test.YtkileiikffomlaaShape
namespace Go.Proofs.Ytkileiikffomlaa
open Go.RowKit
set_option linter.unusedVariables false
set_option linter.unusedSimpArgs false

/-- lengths and a number; no lengths are nil -/
def SummedN (w : World) (cs : List Int) (n : Int) (en : Ending) (w' : World) : Prop :=
  ∃ A c, en = .returned (.tuple #[.slice A cs.length c, .int .i64 n]) ∧ Reads w' w'.heap.size (.slice A cs.length c) (ints .i64 cs) ∧ Below w.heap.size w w' ∧ (cs = [] → A = none ∧ c = 0)
set_option maxHeartbeats 3200000 in
set_option maxRecDepth 100000 in
theorem pof_any (kd out k st pd fr : Int) (fz : Bool) (d : List Int) (dv : Value) (w : World) (B : Nat) (hB : B ≤ w.heap.size) (hd : Reads w B dv (ints .i64 d)) (hgd : GoodD d) (r : List Int × Int) (hr : dimsI ⟨kd, out, k, st, pd, fr, fz⟩ d = r) :
    Calls Try.prog 42 #[.agg #[.int .i64 kd, .int .i64 out, .int .i64 k, .int .i64 st, .int .i64 pd, .int .i64 fr, .bool fz], dv] w (SummedN w r.1 r.2) := by
  subst hr
  obtain ⟨A, c, rfl, _, _⟩ := hd.form
  simp only [length_ints] at *
  have hb0 := net_one w (.cells #[.int .i64 kd, .int .i64 out, .int .i64 k, .int .i64 st, .int .i64 pd, .int .i64 fr, .bool fz] 43)
  have HB0 := Lib.hid hb0
  have hpos := hgd.pos
  obtain ⟨x, hx⟩ : ∃ x, d[0]? = some x := ⟨d[0]'(by omega), List.getElem?_eq_getElem (by omega)⟩
  obtain ⟨g1, o1, rfl, hg1, hx1⟩ := cells_of (hd.below (hb0.mono hB)) hx
  have hx0 : d.headD 0 = x := by cases d with
    | nil => simp at hx
    | cons y d => simp at hx ⊢; exact hx
  have hxb := hgd.bd x (List.mem_of_getElem? hx)
  have z0 : (0 : Int) < (d.length : Int) := by omega
  have HX0 := Lib.hid hx0
  have HSZ : Hid ((w.alloc (.cells #[.int .i64 kd, .int .i64 out, .int .i64 k, .int .i64 st, .int .i64 pd, .int .i64 fr, .bool fz] 43)).drew.heap.size = w.heap.size + 1) := Lib.hid (by show (w.alloc _).heap.size = _; simp)
  obtain ⟨hx2, hx3⟩ := hxb
  clear hx hx0 hd hgd hb0
  by_cases hd : kd = 1
  · subst hd
    have kb := (Blk.fresh w 43 [.int .i64 1, .int .i64 out, .int .i64 k, .int .i64 st, .int .i64 pd, .int .i64 fr, .bool fz]).drew
    go_enter Try.func42, Try.ntmps42
    go_upto_region 3 with fail
    refine wp_region_held_drew (S := (fun w' => w'.cell? ⟨g1, o1, none⟩ = some (.int .i64 x) ∧ w'.cell? ⟨w.heap.size, 0, none⟩ = some (.int .i64 1) ∧ w'.cell? ⟨w.heap.size, 1, none⟩ = some (.int .i64 out) ∧ w'.cell? ⟨w.heap.size, 2, none⟩ = some (.int .i64 k) ∧ w'.cell? ⟨w.heap.size, 3, none⟩ = some (.int .i64 st) ∧ w'.cell? ⟨w.heap.size, 4, none⟩ = some (.int .i64 pd) ∧ w'.cell? ⟨w.heap.size, 5, none⟩ = some (.int .i64 fr) ∧ w'.cell? ⟨w.heap.size, 6, none⟩ = some (.bool fz))) (by kernel_rfl) (⟨hx1, kb.cell 0, kb.cell 1, kb.cell 2, kb.cell 3, kb.cell 4, kb.cell 5, kb.cell 6⟩) (fun hHeld => ?_)
    refine' wpAnyH_take (i := 0) (v := _) rfl (by kernel_rfl) (by kernel_rfl) (by kernel_rfl) (fun _ _ _ h => h) (Or.inl ⟨by rfl, ?taq1⟩) (by assumption) ?tbq1
    case taq1 =>
      intro wS hSw
      (try dsimp only at hSw)
      go_simp
      (try (with_reducible rfl))
    (try simp only [List.getElem_toArray, List.getElem_cons_zero, List.getElem_cons_succ, Act.put, List.setIfInBounds_toArray, List.set_cons_zero, List.set_cons_succ])
    refine' wpAnyH_take (i := 1) (v := _) rfl (by kernel_rfl) (by kernel_rfl) (by kernel_rfl) (fun _ _ _ h => h) (Or.inl ⟨by rfl, ?taq2⟩) (by assumption) ?tbq2
    case taq2 =>
      intro wS hSw
      (try dsimp only at hSw)
      go_simp
      (try (with_reducible rfl))
    (try simp only [List.getElem_toArray, List.getElem_cons_zero, List.getElem_cons_succ, Act.put, List.setIfInBounds_toArray, List.set_cons_zero, List.set_cons_succ])
    refine' wpAnyH_take (i := 2) (v := _) rfl (by kernel_rfl) (by kernel_rfl) (by kernel_rfl) (fun _ _ _ h => h) (Or.inl ⟨by rfl, ?taq3⟩) (by assumption) ?tbq3
    case taq3 =>
      intro wS hSw
      (try dsimp only at hSw)
      go_simp
      (try (with_reducible rfl))
    (try simp only [List.getElem_toArray, List.getElem_cons_zero, List.getElem_cons_succ, Act.put, List.setIfInBounds_toArray, List.set_cons_zero, List.set_cons_succ])
    refine' wpAnyH_take (i := 3) (v := _) rfl (by kernel_rfl) (by kernel_rfl) (by kernel_rfl) (fun _ _ _ h => h) (Or.inl ⟨by rfl, ?taq4⟩) (by assumption) ?tbq4
    case taq4 =>
      intro wS hSw
      (try dsimp only at hSw)
      go_simp
      (try (with_reducible rfl))
    (try simp only [List.getElem_toArray, List.getElem_cons_zero, List.getElem_cons_succ, Act.put, List.setIfInBounds_toArray, List.set_cons_zero, List.set_cons_succ])
    refine' wpAnyH_take (i := 4) (v := _) rfl (by kernel_rfl) (by kernel_rfl) (by kernel_rfl) (fun _ _ _ h => h) (Or.inl ⟨by rfl, ?taq5⟩) (by assumption) ?tbq5
    case taq5 =>
      intro wS hSw
      (try dsimp only at hSw)
      go_simp
      (try (with_reducible rfl))
    (try simp only [List.getElem_toArray, List.getElem_cons_zero, List.getElem_cons_succ, Act.put, List.setIfInBounds_toArray, List.set_cons_zero, List.set_cons_succ])
    refine' wpAnyH_take (i := 6) (v := _) rfl (by kernel_rfl) (by kernel_rfl) (by kernel_rfl) (fun _ _ _ h => h) (Or.inl ⟨by rfl, ?taq6⟩) (by assumption) ?tbq6
    case taq6 =>
      intro wS hSw
      (try dsimp only at hSw)
      go_simp
      (try (with_reducible rfl))
    (try simp only [List.getElem_toArray, List.getElem_cons_zero, List.getElem_cons_succ, Act.put, List.setIfInBounds_toArray, List.set_cons_zero, List.set_cons_succ])
    refine' wpAnyH_take (i := 7) (v := _) rfl (by kernel_rfl) (by kernel_rfl) (by kernel_rfl) (fun _ _ _ h => h) (Or.inl ⟨by rfl, ?taq7⟩) (by assumption) ?tbq7
    case taq7 =>
      intro wS hSw
      (try dsimp only at hSw)
      go_simp
      (try (with_reducible rfl))
    (try simp only [List.getElem_toArray, List.getElem_cons_zero, List.getElem_cons_succ, Act.put, List.setIfInBounds_toArray, List.set_cons_zero, List.set_cons_succ])
    refine wpAnyH_ready (rs := [5]) (by kernel_rfl) (by simp) ?_
    refine AllReadyH.cons rfl (fun K9 hK9 => ?_) AllReadyH.nil
    (try simp only [List.getElem_toArray, List.getElem_cons_zero, List.getElem_cons_succ])
    go_simp
    have hal := net_one (w.alloc (.cells #[.int .i64 1, .int .i64 out, .int .i64 k, .int .i64 st, .int .i64 pd, .int .i64 fr, .bool fz] 43)).drew (.cells #[.int .i64 out, .int .i64 x] 3)
    have hx5 : ((w.alloc (.cells #[.int .i64 1, .int .i64 out, .int .i64 k, .int .i64 st, .int .i64 pd, .int .i64 fr, .bool fz] 43)).alloc (.cells #[.int .i64 out, .int .i64 x] 3)).drew.cell? ⟨g1, o1, none⟩ = some (.int .i64 x) := (hal.cell (p := ⟨g1, o1, none⟩) (by show g1 < (w.alloc _).heap.size; simp; omega)).trans hx1
    have kb5 := kb.below hal kb.lt
    refine hK9.out _ _ (⟨hx5, kb5.cell 0, kb5.cell 1, kb5.cell 2, kb5.cell 3, kb5.cell 4, kb5.cell 5, kb5.cell 6⟩) (fun hHeld9 => ?_)
    clear hK9 K9
    (try simp only [List.getElem_toArray, List.getElem_cons_zero, List.getElem_cons_succ, Act.put, List.setIfInBounds_toArray, List.set_cons_zero, List.set_cons_succ])
    refine' wpAnyH_take (i := 8) (v := _) rfl (by kernel_rfl) (by kernel_rfl) (by kernel_rfl) (fun _ _ _ h => h) (Or.inl ⟨by rfl, ?taq8⟩) (by assumption) ?tbq8
    case taq8 =>
      intro wS hSw
      (try dsimp only at hSw)
      go_simp
      (try (with_reducible rfl))
    (try simp only [List.getElem_toArray, List.getElem_cons_zero, List.getElem_cons_succ, Act.put, List.setIfInBounds_toArray, List.set_cons_zero, List.set_cons_succ])
    refine' wpAnyH_take (i := 9) (v := _) rfl (by kernel_rfl) (by kernel_rfl) (by kernel_rfl) (fun _ _ _ h => h) (Or.inl ⟨by rfl, ?taq9⟩) (by assumption) ?tbq9
    case taq9 =>
      intro wS hSw
      (try dsimp only at hSw)
      go_simp
      (try (with_reducible rfl))
    (try simp only [List.getElem_toArray, List.getElem_cons_zero, List.getElem_cons_succ, Act.put, List.setIfInBounds_toArray, List.set_cons_zero, List.set_cons_succ])
    refine wpAnyH_done (by kernel_rfl) ?_ _
    go_wp2
    refine bodyPost_ret (v := .tuple #[.slice (some ⟨w.heap.size + 1, 0, none⟩) 2 2, .int .i64 out]) (by simp [results, Try.results42, go_sem]) rfl ?_
    have hs : dimsI ⟨1, out, k, st, pd, fr, fz⟩ d = ([out, x], out) := by unfold dimsI; rw [HX0.out]; rfl
    rw [hs]
    exact ⟨_, _, rfl, lit_reads (w1 := (w.alloc (.cells #[.int .i64 1, .int .i64 out, .int .i64 k, .int .i64 st, .int .i64 pd, .int .i64 fr, .bool fz] 43)).drew) (cs := [.int .i64 out, .int .i64 x]) (e := [out, x]) (n := 2) rfl rfl (by omega) HSZ.out, HB0.out.drew.alloc (by have := HSZ.out; omega) _, fun h => by cases h⟩
  · have t1 : (kd == 1) = false := by simpa using hd
    have T1 := Lib.hid hd
    clear hd
    by_cases hd : kd = 2
    · subst hd
      have kb := (Blk.fresh w 43 [.int .i64 2, .int .i64 out, .int .i64 k, .int .i64 st, .int .i64 pd, .int .i64 fr, .bool fz]).drew
      go_enter Try.func42, Try.ntmps42
      go_upto_region 5 with fail
      refine wp_region_held_drew (S := (fun w' => w'.cell? ⟨g1, o1, none⟩ = some (.int .i64 x) ∧ w'.cell? ⟨w.heap.size, 0, none⟩ = some (.int .i64 2) ∧ w'.cell? ⟨w.heap.size, 1, none⟩ = some (.int .i64 out) ∧ w'.cell? ⟨w.heap.size, 2, none⟩ = some (.int .i64 k) ∧ w'.cell? ⟨w.heap.size, 3, none⟩ = some (.int .i64 st) ∧ w'.cell? ⟨w.heap.size, 4, none⟩ = some (.int .i64 pd) ∧ w'.cell? ⟨w.heap.size, 5, none⟩ = some (.int .i64 fr) ∧ w'.cell? ⟨w.heap.size, 6, none⟩ = some (.bool fz))) (by kernel_rfl) (⟨hx1, kb.cell 0, kb.cell 1, kb.cell 2, kb.cell 3, kb.cell 4, kb.cell 5, kb.cell 6⟩) (fun hHeld => ?_)
      refine' wpAnyH_take (i := 0) (v := _) rfl (by kernel_rfl) (by kernel_rfl) (by kernel_rfl) (fun _ _ _ h => h) (Or.inl ⟨by rfl, ?taq10⟩) (by assumption) ?tbq10
      case taq10 =>
        intro wS hSw
        (try dsimp only at hSw)
        go_simp
        (try (with_reducible rfl))
      (try simp only [List.getElem_toArray, List.getElem_cons_zero, List.getElem_cons_succ, Act.put, List.setIfInBounds_toArray, List.set_cons_zero, List.set_cons_succ])
      refine' wpAnyH_take (i := 1) (v := _) rfl (by kernel_rfl) (by kernel_rfl) (by kernel_rfl) (fun _ _ _ h => h) (Or.inl ⟨by rfl, ?taq11⟩) (by assumption) ?tbq11
      case taq11 =>
        intro wS hSw
        (try dsimp only at hSw)
        go_simp
        (try (with_reducible rfl))
      (try simp only [List.getElem_toArray, List.getElem_cons_zero, List.getElem_cons_succ, Act.put, List.setIfInBounds_toArray, List.set_cons_zero, List.set_cons_succ])
      refine' wpAnyH_take (i := 2) (v := _) rfl (by kernel_rfl) (by kernel_rfl) (by kernel_rfl) (fun _ _ _ h => h) (Or.inl ⟨by rfl, ?taq12⟩) (by assumption) ?tbq12
      case taq12 =>
        intro wS hSw
        (try dsimp only at hSw)
        go_simp
        (try (with_reducible rfl))
      (try simp only [List.getElem_toArray, List.getElem_cons_zero, List.getElem_cons_succ, Act.put, List.setIfInBounds_toArray, List.set_cons_zero, List.set_cons_succ])
      refine' wpAnyH_take (i := 3) (v := _) rfl (by kernel_rfl) (by kernel_rfl) (by kernel_rfl) (fun _ _ _ h => h) (Or.inl ⟨by rfl, ?taq13⟩) (by assumption) ?tbq13
      case taq13 =>
        intro wS hSw
        (try dsimp only at hSw)
        go_simp
        (try (with_reducible rfl))
      (try simp only [List.getElem_toArray, List.getElem_cons_zero, List.getElem_cons_succ, Act.put, List.setIfInBounds_toArray, List.set_cons_zero, List.set_cons_succ])
      refine' wpAnyH_take (i := 4) (v := _) rfl (by kernel_rfl) (by kernel_rfl) (by kernel_rfl) (fun _ _ _ h => h) (Or.inl ⟨by rfl, ?taq14⟩) (by assumption) ?tbq14
      case taq14 =>
        intro wS hSw
        (try dsimp only at hSw)
        go_simp
        (try (with_reducible rfl))
      (try simp only [List.getElem_toArray, List.getElem_cons_zero, List.getElem_cons_succ, Act.put, List.setIfInBounds_toArray, List.set_cons_zero, List.set_cons_succ])
      refine' wpAnyH_take (i := 5) (v := _) rfl (by kernel_rfl) (by kernel_rfl) (by kernel_rfl) (fun _ _ _ h => h) (Or.inl ⟨by rfl, ?taq15⟩) (by assumption) ?tbq15
      case taq15 =>
        intro wS hSw
        (try dsimp only at hSw)
        go_simp
        (try (with_reducible rfl))
      (try simp only [List.getElem_toArray, List.getElem_cons_zero, List.getElem_cons_succ, Act.put, List.setIfInBounds_toArray, List.set_cons_zero, List.set_cons_succ])
      refine' wpAnyH_take (i := 6) (v := _) rfl (by kernel_rfl) (by kernel_rfl) (by kernel_rfl) (fun _ _ _ h => h) (Or.inl ⟨by rfl, ?taq16⟩) (by assumption) ?tbq16
      case taq16 =>
        intro wS hSw
        (try dsimp only at hSw)
        go_simp
        (try (with_reducible rfl))
      (try simp only [List.getElem_toArray, List.getElem_cons_zero, List.getElem_cons_succ, Act.put, List.setIfInBounds_toArray, List.set_cons_zero, List.set_cons_succ])
      refine' wpAnyH_take (i := 7) (v := _) rfl (by kernel_rfl) (by kernel_rfl) (by kernel_rfl) (fun _ _ _ h => h) (Or.inl ⟨by rfl, ?taq17⟩) (by assumption) ?tbq17
      case taq17 =>
        intro wS hSw
        (try dsimp only at hSw)
        go_simp
        (try (with_reducible rfl))
      (try simp only [List.getElem_toArray, List.getElem_cons_zero, List.getElem_cons_succ, Act.put, List.setIfInBounds_toArray, List.set_cons_zero, List.set_cons_succ])
      refine' wpAnyH_take (i := 8) (v := _) rfl (by kernel_rfl) (by kernel_rfl) (by kernel_rfl) (fun _ _ _ h => h) (Or.inl ⟨by rfl, ?taq18⟩) (by assumption) ?tbq18
      case taq18 =>
        intro wS hSw
        (try dsimp only at hSw)
        go_simp
        (try (with_reducible rfl))
      (try simp only [List.getElem_toArray, List.getElem_cons_zero, List.getElem_cons_succ, Act.put, List.setIfInBounds_toArray, List.set_cons_zero, List.set_cons_succ])
      refine' wpAnyH_take (i := 10) (v := _) rfl (by kernel_rfl) (by kernel_rfl) (by kernel_rfl) (fun _ _ _ h => h) (Or.inl ⟨by rfl, ?taq19⟩) (by assumption) ?tbq19
      case taq19 =>
        intro wS hSw
        (try dsimp only at hSw)
        go_simp
        (try (with_reducible rfl))
      (try simp only [List.getElem_toArray, List.getElem_cons_zero, List.getElem_cons_succ, Act.put, List.setIfInBounds_toArray, List.set_cons_zero, List.set_cons_succ])
      refine' wpAnyH_take (i := 11) (v := _) rfl (by kernel_rfl) (by kernel_rfl) (by kernel_rfl) (fun _ _ _ h => h) (Or.inl ⟨by rfl, ?taq20⟩) (by assumption) ?tbq20
      case taq20 =>
        intro wS hSw
        (try dsimp only at hSw)
        go_simp
        (try (with_reducible rfl))
      (try simp only [List.getElem_toArray, List.getElem_cons_zero, List.getElem_cons_succ, Act.put, List.setIfInBounds_toArray, List.set_cons_zero, List.set_cons_succ])
      refine wpAnyH_ready (rs := [9]) (by kernel_rfl) (by simp) ?_
      refine AllReadyH.cons rfl (fun K9 hK9 => ?_) AllReadyH.nil
      (try simp only [List.getElem_toArray, List.getElem_cons_zero, List.getElem_cons_succ])
      go_simp
      have hal := net_one (w.alloc (.cells #[.int .i64 2, .int .i64 out, .int .i64 k, .int .i64 st, .int .i64 pd, .int .i64 fr, .bool fz] 43)).drew (.cells #[.int .i64 out, .int .i64 x, .int .i64 k, .int .i64 k] 3)
      have hx5 : ((w.alloc (.cells #[.int .i64 2, .int .i64 out, .int .i64 k, .int .i64 st, .int .i64 pd, .int .i64 fr, .bool fz] 43)).alloc (.cells #[.int .i64 out, .int .i64 x, .int .i64 k, .int .i64 k] 3)).drew.cell? ⟨g1, o1, none⟩ = some (.int .i64 x) := (hal.cell (p := ⟨g1, o1, none⟩) (by show g1 < (w.alloc _).heap.size; simp; omega)).trans hx1
      have kb5 := kb.below hal kb.lt
      refine hK9.out _ _ (⟨hx5, kb5.cell 0, kb5.cell 1, kb5.cell 2, kb5.cell 3, kb5.cell 4, kb5.cell 5, kb5.cell 6⟩) (fun hHeld9 => ?_)
      clear hK9 K9
      (try simp only [List.getElem_toArray, List.getElem_cons_zero, List.getElem_cons_succ, Act.put, List.setIfInBounds_toArray, List.set_cons_zero, List.set_cons_succ])
      refine' wpAnyH_take (i := 12) (v := _) rfl (by kernel_rfl) (by kernel_rfl) (by kernel_rfl) (fun _ _ _ h => h) (Or.inl ⟨by rfl, ?taq21⟩) (by assumption) ?tbq21
      case taq21 =>
        intro wS hSw
        (try dsimp only at hSw)
        go_simp
        (try (with_reducible rfl))
      (try simp only [List.getElem_toArray, List.getElem_cons_zero, List.getElem_cons_succ, Act.put, List.setIfInBounds_toArray, List.set_cons_zero, List.set_cons_succ])
      refine' wpAnyH_take (i := 13) (v := _) rfl (by kernel_rfl) (by kernel_rfl) (by kernel_rfl) (fun _ _ _ h => h) (Or.inl ⟨by rfl, ?taq22⟩) (by assumption) ?tbq22
      case taq22 =>
        intro wS hSw
        (try dsimp only at hSw)
        go_simp
        (try (with_reducible rfl))
      (try simp only [List.getElem_toArray, List.getElem_cons_zero, List.getElem_cons_succ, Act.put, List.setIfInBounds_toArray, List.set_cons_zero, List.set_cons_succ])
      refine wpAnyH_done (by kernel_rfl) ?_ _
      go_wp2
      refine bodyPost_ret (v := .tuple #[.slice (some ⟨w.heap.size + 1, 0, none⟩) 4 4, .int .i64 out]) (by simp [results, Try.results42, go_sem]) rfl ?_
      have hs : dimsI ⟨2, out, k, st, pd, fr, fz⟩ d = ([out, x, k, k], out) := by unfold dimsI; rw [HX0.out]; rfl
      rw [hs]
      exact ⟨_, _, rfl, lit_reads (w1 := (w.alloc (.cells #[.int .i64 2, .int .i64 out, .int .i64 k, .int .i64 st, .int .i64 pd, .int .i64 fr, .bool fz] 43)).drew) (cs := [.int .i64 out, .int .i64 x, .int .i64 k, .int .i64 k]) (e := [out, x, k, k]) (n := 4) rfl rfl (by omega) HSZ.out, HB0.out.drew.alloc (by have := HSZ.out; omega) _, fun h => by cases h⟩
    · have t2 : (kd == 2) = false := by simpa using hd
      have T2 := Lib.hid hd
      clear hd
      have HS : Hid (dimsI ⟨kd, out, k, st, pd, fr, fz⟩ d = ([], 0)) := Lib.hid (by unfold dimsI; rw [if_neg T1.out, if_neg T2.out])
      go_enter Try.func42, Try.ntmps42
      go_wp2
      refine bodyPost_ret (v := .tuple #[.slice none 0 0, .int .i64 0]) (by simp [results, Try.results42, go_sem]) rfl ?_
      rw [HS.out]
      exact ⟨none, 0, rfl, Reads.nil_ _ _, HB0.out, fun _ => ⟨rfl, rfl⟩⟩


def pdimsI (a b c : Int) (ls : List LayV) (layer : Int) : List Int × Int :=
  if (shapesM a b c ls).2.2 = 0 ∧ 1 ≤ layer ∧ layer ≤ ls.length then
    (if 0 < sizeI (dimsI (ls.getD (layer - 1).toNat ⟨0, 0, 0, 0, 0, 0, false⟩) ((shapesM a b c ls).1.getD (layer - 1).toNat [])).1 then dimsI (ls.getD (layer - 1).toNat ⟨0, 0, 0, 0, 0, 0, false⟩) ((shapesM a b c ls).1.getD (layer - 1).toNat []) else ([], 0))
  else ([], 0)
theorem SummedN.no {w w' : World} (h : Below w.heap.size w w') : SummedN w [] 0 (.returned (.tuple #[.slice none 0 0, .int .i64 0])) w' := ⟨none, 0, rfl, Reads.nil_ _ _, h, fun _ => ⟨rfl, rfl⟩⟩
set_option maxHeartbeats 3200000 in
set_option maxRecDepth 100000 in
theorem pdims_any (a b c : Int) (v : Value) (ls : List LayV) (layer : Int) (w : World) (B : Nat) (hB : B ≤ w.heap.size) (h : LaysOf w B v ls) (r : List Int × Int) (hr : pdimsI a b c ls layer = r) :
    Calls Try.prog 21 #[.agg #[.int .i64 a, .int .i64 b, .int .i64 c, v], .int .i64 layer] w (SummedN w r.1 r.2) := by
  subst hr
  obtain ⟨A, cc, rfl⟩ := h.form
  have hlen := h.len
  have HL := Lib.hid h
  have hb0 := net_one w (.cells #[.int .i64 a, .int .i64 b, .int .i64 c, .slice A ls.length cc] 25)
  have HB0 := Lib.hid hb0
  have hsz : w.heap.size < (w.alloc (.cells #[.int .i64 a, .int .i64 b, .int .i64 c, .slice A ls.length cc] 25)).heap.size := by simp
  have KB := Lib.hid (Blk.fresh w 25 [.int .i64 a, .int .i64 b, .int .i64 c, .slice A ls.length cc])
  have HSH : Hid (∀ res, shapesM a b c ls = res → Calls Try.prog 12 #[.agg #[.int .i64 a, .int .i64 b, .int .i64 c, .slice A ls.length cc]] (w.alloc (.cells #[.int .i64 a, .int .i64 b, .int .i64 c, .slice A ls.length cc] 25)) (Shaped (w.alloc (.cells #[.int .i64 a, .int .i64 b, .int .i64 c, .slice A ls.length cc] 25)) res)) :=
    Lib.hid (fun res hres => shapes_any a b c _ ls _ B (by omega) (HL.out.below (HB0.out.mono hB)) res hres)
  clear h hb0
  rcases shapesM_cases a b c ls with ⟨hs, hm⟩ | ⟨n, hs, hn1, hn2, hm⟩ | ⟨all, hs, hok⟩
  · have HC := Lib.hid (HSH.out _ hs)
    have HW : Hid (pdimsI a b c ls layer = ([], 0)) := Lib.hid (by unfold pdimsI; rw [hs]; simp)
    clear hs hm
    go_enter Try.func21, Try.ntmps21
    go_wp2_with fail
    refine HC.out.mono ?_
    rintro en w2 ⟨A2, c2, rfl, hrows, hb2⟩
    have HB2 := Lib.hid (HB0.out.trans (hb2.mono (by omega)))
    clear hb2 hrows
    dsimp only
    go_wp2
    refine bodyPost_ret (v := .tuple #[.slice none 0 0, .int .i64 0]) (by simp [results, Try.results21, go_sem]) rfl ?_
    rw [HW.out]
    exact SummedN.no HB2.out
  · have HC := Lib.hid (HSH.out _ hs)
    have HW : Hid (pdimsI a b c ls layer = ([], 0)) := Lib.hid (by unfold pdimsI; rw [hs]; simp)
    clear hs hm
    go_enter Try.func21, Try.ntmps21
    go_wp2_with fail
    refine HC.out.mono ?_
    rintro en w2 ⟨A2, c2, rfl, hrows, hb2⟩
    have HB2 := Lib.hid (HB0.out.trans (hb2.mono (by omega)))
    clear hb2 hrows
    dsimp only
    go_wp2
    refine bodyPost_ret (v := .tuple #[.slice none 0 0, .int .i64 0]) (by simp [results, Try.results21, go_sem]) rfl ?_
    rw [HW.out]
    exact SummedN.no HB2.out
  · have HC := Lib.hid (HSH.out _ hs)
    have HML := Lib.hid hok.len
    have HOK := Lib.hid hok
    have HSE := Lib.hid hs
    by_cases hr : 1 ≤ layer ∧ layer ≤ ls.length
    · obtain ⟨m, rfl⟩ : ∃ m : Nat, layer = (m : Int) + 1 := ⟨(layer - 1).toNat, by omega⟩
      obtain ⟨hr1, hr2⟩ := hr
      have hm : m < ls.length := by omega
      have hml := hok.len
      obtain ⟨d, hd⟩ : ∃ d, all[m]? = some d := ⟨all[m]'(by omega), List.getElem?_eq_getElem (by omega)⟩
      have hgd := Lib.hid (hok.good m d hd)
      have HD := Lib.hid hd
      have t1 : decide ((m : Int) + 1 < 1) = false := decide_eq_false (by omega)
      have t2 : decide ((ls.length : Int) < (m : Int) + 1) = false := decide_eq_false (by omega)
      have hw1 : IntKind.i64.wrap (m : Int) = (m : Int) := IntWalk.i64_in _ (by omega)
      have i0 : 0 ≤ (m : Int) := by omega
      have i1 : (m : Int) < (ls.length : Int) := by omega
      have i2 : (m : Int) < (ls.length : Int) + 1 := by omega
      clear hs hok hml hd hr1 hr2
      go_enter Try.func21, Try.ntmps21
      go_wp2_with fail
      refine HC.out.mono ?_
      rintro en w2 ⟨A2, c2, rfl, hrows, hb2⟩
      have HB2 := Lib.hid (HB0.out.trans (hb2.mono (by omega)))
      have K2 := KB.out.below hb2 hsz
      dsimp only at hrows ⊢
      obtain ⟨gr, og, c3, A3, c4, e1, hgr, hcl1, hrl⟩ := hrows.at_ HD.out
      injection e1 with e1 _ e3
      subst e1 e3
      rw [HML.out]
      have hL2 := HL.out.below (HB2.out.mono hB)
      obtain ⟨gl, ol, cl, l, e2, hll, hlok, hgl, q0, q1, q2, q3, q4, q5, q6⟩ := hL2.at_ hm
      injection e2 with e2 _ e4
      subst e2 e4
      obtain ⟨kd, out, k, st, pd, fr, fz⟩ := l
      dsimp only at q0 q1 q2 q3 q4 q5 q6
      have HLL := Lib.hid hll
      have HLO := Lib.hid hlok
      have HW : Hid (pdimsI a b c ls ((m : Int) + 1) = if 0 < sizeI (dimsI ⟨kd, out, k, st, pd, fr, fz⟩ d).1 then dimsI ⟨kd, out, k, st, pd, fr, fz⟩ d else ([], 0)) := Lib.hid (by
        unfold pdimsI
        rw [HSE.out]
        have h1 : ((m : Int) + 1 - 1).toNat = m := by omega
        simp only [h1, List.getD_eq_getElem?_getD, HLL.out, HD.out, Option.getD_some]
        rw [if_pos ⟨trivial, by omega, by omega⟩])
      obtain ⟨q, hq⟩ : ∃ q, dimsI ⟨kd, out, k, st, pd, fr, fz⟩ d = q := ⟨_, rfl⟩
      have HQB : Hid (∀ x ∈ q.1, -9223372036854775808 ≤ x ∧ x ≤ 9223372036854775807) := Lib.hid (by
        rw [← hq]
        obtain ⟨y0, y1, y2, y3, y4, y5⟩ := HLO.out
        simp only [inW] at y0 y1 y2 y3 y4 y5
        have hx : -9223372036854775808 ≤ d.headD 0 ∧ d.headD 0 ≤ 9223372036854775807 := by
          cases d with
          | nil => simp
          | cons x d => have := hgd.out.bd x (by simp); show -9223372036854775808 ≤ x ∧ x ≤ 9223372036854775807; exact ⟨by omega, by omega⟩
        intro x hx2
        unfold dimsI at hx2
        simp only at hx2
        split at hx2
        · simp only [List.mem_cons, List.not_mem_nil, or_false] at hx2; rcases hx2 with rfl | rfl <;> omega
        · split at hx2
          · simp only [List.mem_cons, List.not_mem_nil, or_false] at hx2; rcases hx2 with rfl | rfl | rfl | rfl <;> omega
          · simp at hx2)
      have HCO : Hid (Calls Try.prog 42 #[.agg #[.int .i64 kd, .int .i64 out, .int .i64 k, .int .i64 st, .int .i64 pd, .int .i64 fr, .bool fz], .slice A3 d.length c4] w2.drew (SummedN w2.drew q.1 q.2)) :=
        Lib.hid (pof_any kd out k st pd fr fz d _ w2.drew w2.heap.size (Nat.le_refl _) hrl hgd.out q hq)
      have HQ := Lib.hid hq
      obtain ⟨qd, qn⟩ := q
      dsimp only at HQB HCO
      have k0 := K2.cell 0
      have k1 := K2.cell 1
      have k2 := K2.cell 2
      have k3 := K2.cell 3
      simp only [List.getElem?_cons_zero, List.getElem?_cons_succ] at k0 k1 k2 k3
      have hw2 := K2.lt
      have hgl2 : gl < w2.heap.size := by have := HB2.out.size; omega
      clear hb2 hrows hrl hL2 hll hlok hq
      go_wp2_with fail
      refine wp_region_held_drew (S := ((fun w' => w'.cell? ⟨w.heap.size, 0, none⟩ = some (.int .i64 a) ∧ w'.cell? ⟨w.heap.size, 1, none⟩ = some (.int .i64 b) ∧ w'.cell? ⟨w.heap.size, 2, none⟩ = some (.int .i64 c) ∧ w'.cell? ⟨w.heap.size, 3, none⟩ = some (.slice (some ⟨gl, ol, none⟩) ls.length cc) ∧ w'.cell? ⟨gr, og + m, none⟩ = some (.slice A3 d.length c4) ∧ w'.cell? ⟨gl, ol + m * 7, none⟩ = some (.int .i64 kd) ∧ w'.cell? ⟨gl, ol + m * 7 + 1, none⟩ = some (.int .i64 out) ∧ w'.cell? ⟨gl, ol + m * 7 + 2, none⟩ = some (.int .i64 k) ∧ w'.cell? ⟨gl, ol + m * 7 + 3, none⟩ = some (.int .i64 st) ∧ w'.cell? ⟨gl, ol + m * 7 + 4, none⟩ = some (.int .i64 pd) ∧ w'.cell? ⟨gl, ol + m * 7 + 5, none⟩ = some (.int .i64 fr) ∧ w'.cell? ⟨gl, ol + m * 7 + 6, none⟩ = some (.bool fz)))) (by kernel_rfl) (⟨k0, k1, k2, k3, hcl1, q0, q1, q2, q3, q4, q5, q6⟩) (fun hHeld => ?_)
      refine' wpAnyH_take (i := 0) (v := _) rfl (by kernel_rfl) (by kernel_rfl) (by kernel_rfl) (fun _ _ _ h => h) (Or.inl ⟨by rfl, ?taq18⟩) (by assumption) ?tbq18
      case taq18 =>
        intro wS hSw
        (try dsimp only at hSw)
        go_simp
        (try (with_reducible rfl))
      (try simp only [List.getElem_toArray, List.getElem_cons_zero, List.getElem_cons_succ, Act.put, List.setIfInBounds_toArray, List.set_cons_zero, List.set_cons_succ])
      refine' wpAnyH_take (i := 1) (v := _) rfl (by kernel_rfl) (by kernel_rfl) (by kernel_rfl) (fun _ _ _ h => h) (Or.inl ⟨by rfl, ?taq19⟩) (by assumption) ?tbq19
      case taq19 =>
        intro wS hSw
        (try dsimp only at hSw)
        go_simp
        (try (with_reducible rfl))
      (try simp only [List.getElem_toArray, List.getElem_cons_zero, List.getElem_cons_succ, Act.put, List.setIfInBounds_toArray, List.set_cons_zero, List.set_cons_succ])
      refine' wpAnyH_take (i := 2) (v := _) rfl (by kernel_rfl) (by kernel_rfl) (by kernel_rfl) (fun _ _ _ h => h) (Or.inl ⟨by rfl, ?taq20⟩) (by assumption) ?tbq20
      case taq20 =>
        intro wS hSw
        (try dsimp only at hSw)
        go_simp
        (try (with_reducible rfl))
      (try simp only [List.getElem_toArray, List.getElem_cons_zero, List.getElem_cons_succ, Act.put, List.setIfInBounds_toArray, List.set_cons_zero, List.set_cons_succ])
      refine' wpAnyH_take (i := 3) (v := _) rfl (by kernel_rfl) (by kernel_rfl) (by kernel_rfl) (fun _ _ _ h => h) (Or.inl ⟨by rfl, ?taq21⟩) (by assumption) ?tbq21
      case taq21 =>
        intro wS hSw
        (try dsimp only at hSw)
        go_simp
        (try (with_reducible rfl))
      (try simp only [List.getElem_toArray, List.getElem_cons_zero, List.getElem_cons_succ, Act.put, List.setIfInBounds_toArray, List.set_cons_zero, List.set_cons_succ])
      refine' wpAnyH_take (i := 4) (v := _) rfl (by kernel_rfl) (by kernel_rfl) (by kernel_rfl) (fun _ _ _ h => h) (Or.inl ⟨by rfl, ?taq22⟩) (by assumption) ?tbq22
      case taq22 =>
        intro wS hSw
        (try dsimp only at hSw)
        go_simp
        (try (with_reducible rfl))
      (try simp only [List.getElem_toArray, List.getElem_cons_zero, List.getElem_cons_succ, Act.put, List.setIfInBounds_toArray, List.set_cons_zero, List.set_cons_succ])
      refine' wpAnyH_take (i := 5) (v := _) rfl (by kernel_rfl) (by kernel_rfl) (by kernel_rfl) (fun _ _ _ h => h) (Or.inl ⟨by rfl, ?taq23⟩) (by assumption) ?tbq23
      case taq23 =>
        intro wS hSw
        (try dsimp only at hSw)
        go_simp
        (try (with_reducible rfl))
      (try simp only [List.getElem_toArray, List.getElem_cons_zero, List.getElem_cons_succ, Act.put, List.setIfInBounds_toArray, List.set_cons_zero, List.set_cons_succ])
      refine' wpAnyH_take (i := 6) (v := _) rfl (by kernel_rfl) (by kernel_rfl) (by kernel_rfl) (fun _ _ _ h => h) (Or.inl ⟨by rfl, ?taq24⟩) (by assumption) ?tbq24
      case taq24 =>
        intro wS hSw
        (try dsimp only at hSw)
        go_simp
        (try (with_reducible rfl))
      (try simp only [List.getElem_toArray, List.getElem_cons_zero, List.getElem_cons_succ, Act.put, List.setIfInBounds_toArray, List.set_cons_zero, List.set_cons_succ])
      refine' wpAnyH_take (i := 7) (v := _) rfl (by kernel_rfl) (by kernel_rfl) (by kernel_rfl) (fun _ _ _ h => h) (Or.inl ⟨by rfl, ?taq25⟩) (by assumption) ?tbq25
      case taq25 =>
        intro wS hSw
        (try dsimp only at hSw)
        go_simp
        (try (with_reducible rfl))
      (try simp only [List.getElem_toArray, List.getElem_cons_zero, List.getElem_cons_succ, Act.put, List.setIfInBounds_toArray, List.set_cons_zero, List.set_cons_succ])
      refine' wpAnyH_take (i := 8) (v := _) rfl (by kernel_rfl) (by kernel_rfl) (by kernel_rfl) (fun _ _ _ h => h) (Or.inl ⟨by rfl, ?taq26⟩) (by assumption) ?tbq26
      case taq26 =>
        intro wS hSw
        (try dsimp only at hSw)
        go_simp
        (try (with_reducible rfl))
      (try simp only [List.getElem_toArray, List.getElem_cons_zero, List.getElem_cons_succ, Act.put, List.setIfInBounds_toArray, List.set_cons_zero, List.set_cons_succ])
      refine' wpAnyH_take (i := 9) (v := _) rfl (by kernel_rfl) (by kernel_rfl) (by kernel_rfl) (fun _ _ _ h => h) (Or.inl ⟨by rfl, ?taq27⟩) (by assumption) ?tbq27
      case taq27 =>
        intro wS hSw
        (try dsimp only at hSw)
        go_simp
        (try (with_reducible rfl))
      (try simp only [List.getElem_toArray, List.getElem_cons_zero, List.getElem_cons_succ, Act.put, List.setIfInBounds_toArray, List.set_cons_zero, List.set_cons_succ])
      refine' wpAnyH_take (i := 10) (v := _) rfl (by kernel_rfl) (by kernel_rfl) (by kernel_rfl) (fun _ _ _ h => h) (Or.inl ⟨by rfl, ?taq28⟩) (by assumption) ?tbq28
      case taq28 =>
        intro wS hSw
        (try dsimp only at hSw)
        go_simp
        (try (with_reducible rfl))
      (try simp only [List.getElem_toArray, List.getElem_cons_zero, List.getElem_cons_succ, Act.put, List.setIfInBounds_toArray, List.set_cons_zero, List.set_cons_succ])
      refine wpAnyH_ready (rs := [11]) (by kernel_rfl) (by simp) ?_
      refine AllReadyH.cons rfl (fun K9 hK9 => ?_) AllReadyH.nil
      (try simp only [List.getElem_toArray, List.getElem_cons_zero, List.getElem_cons_succ])
      go_simp
      refine HCO.out.mono ?_
      rintro en w5 ⟨A5, c5, rfl, hr5, hb5, hnil⟩
      have HB5 : Hid (Below w2.heap.size w2 w5) := Lib.hid ((Below.refl w2.heap.size w2).drew.trans hb5)
      have hcc := fun (p : Addr) (hp : p.block < w2.heap.size) => HB5.out.cell (p := p) hp
      have HR5 := Lib.hid hr5
      have HNIL := Lib.hid hnil
      clear hnil
      have z0 := (hcc ⟨w.heap.size, 0, none⟩ hw2).trans k0
      have z1 := (hcc ⟨w.heap.size, 1, none⟩ hw2).trans k1
      have z2 := (hcc ⟨w.heap.size, 2, none⟩ hw2).trans k2
      have z3 := (hcc ⟨w.heap.size, 3, none⟩ hw2).trans k3
      have z4 := (hcc ⟨gr, og + m, none⟩ hgr).trans hcl1
      have z5 := (hcc ⟨gl, ol + m * 7, none⟩ hgl2).trans q0
      have z6 := (hcc ⟨gl, ol + m * 7 + 1, none⟩ hgl2).trans q1
      have z7 := (hcc ⟨gl, ol + m * 7 + 2, none⟩ hgl2).trans q2
      have z8 := (hcc ⟨gl, ol + m * 7 + 3, none⟩ hgl2).trans q3
      have z9 := (hcc ⟨gl, ol + m * 7 + 4, none⟩ hgl2).trans q4
      have z10 := (hcc ⟨gl, ol + m * 7 + 5, none⟩ hgl2).trans q5
      have z11 := (hcc ⟨gl, ol + m * 7 + 6, none⟩ hgl2).trans q6
      clear hb5 hcc hr5
      dsimp only
      refine hK9.out _ _ (⟨z0, z1, z2, z3, z4, z5, z6, z7, z8, z9, z10, z11⟩) (fun hHeld9 => ?_)
      clear hK9 K9
      (try simp only [List.getElem_toArray, List.getElem_cons_zero, List.getElem_cons_succ, Act.put, List.setIfInBounds_toArray, List.set_cons_zero, List.set_cons_succ])
      refine' wpAnyH_take (i := 12) (v := _) rfl (by kernel_rfl) (by kernel_rfl) (by kernel_rfl) (fun _ _ _ h => h) (Or.inl ⟨by rfl, ?taq29⟩) (by assumption) ?tbq29
      case taq29 =>
        intro wS hSw
        (try dsimp only at hSw)
        go_simp
        (try (with_reducible rfl))
      (try simp only [List.getElem_toArray, List.getElem_cons_zero, List.getElem_cons_succ, Act.put, List.setIfInBounds_toArray, List.set_cons_zero, List.set_cons_succ])
      refine' wpAnyH_take (i := 13) (v := _) rfl (by kernel_rfl) (by kernel_rfl) (by kernel_rfl) (fun _ _ _ h => h) (Or.inl ⟨by rfl, ?taq30⟩) (by assumption) ?tbq30
      case taq30 =>
        intro wS hSw
        (try dsimp only at hSw)
        go_simp
        (try (with_reducible rfl))
      (try simp only [List.getElem_toArray, List.getElem_cons_zero, List.getElem_cons_succ, Act.put, List.setIfInBounds_toArray, List.set_cons_zero, List.set_cons_succ])
      refine' wpAnyH_take (i := 14) (v := _) rfl (by kernel_rfl) (by kernel_rfl) (by kernel_rfl) (fun _ _ _ h => h) (Or.inl ⟨by rfl, ?taq31⟩) (by assumption) ?tbq31
      case taq31 =>
        intro wS hSw
        (try dsimp only at hSw)
        go_simp
        (try (with_reducible rfl))
      (try simp only [List.getElem_toArray, List.getElem_cons_zero, List.getElem_cons_succ, Act.put, List.setIfInBounds_toArray, List.set_cons_zero, List.set_cons_succ])
      refine' wpAnyH_take (i := 15) (v := _) rfl (by kernel_rfl) (by kernel_rfl) (by kernel_rfl) (fun _ _ _ h => h) (Or.inl ⟨by rfl, ?taq32⟩) (by assumption) ?tbq32
      case taq32 =>
        intro wS hSw
        (try dsimp only at hSw)
        go_simp
        (try (with_reducible rfl))
      (try simp only [List.getElem_toArray, List.getElem_cons_zero, List.getElem_cons_succ, Act.put, List.setIfInBounds_toArray, List.set_cons_zero, List.set_cons_succ])
      refine' wpAnyH_take (i := 16) (v := _) rfl (by kernel_rfl) (by kernel_rfl) (by kernel_rfl) (fun _ _ _ h => h) (Or.inl ⟨by rfl, ?taq33⟩) (by assumption) ?tbq33
      case taq33 =>
        intro wS hSw
        (try dsimp only at hSw)
        go_simp
        (try (with_reducible rfl))
      (try simp only [List.getElem_toArray, List.getElem_cons_zero, List.getElem_cons_succ, Act.put, List.setIfInBounds_toArray, List.set_cons_zero, List.set_cons_succ])
      refine wpAnyH_done (by kernel_rfl) ?_ _
      have HB9 := Lib.hid (HB2.out.trans (HB5.out.mono (HB2.out.size)))
      by_cases hp : 0 < sizeI qd
      · have tp : decide (0 < sizeI qd) = true := by simpa using hp
        have HP := Lib.hid hp
        clear hp
        go_wp2_with fail
        refine (shapemay_any qd _ _ _ HR5.out HQB.out).mono ?_
        rintro en w6 ⟨rfl, rfl⟩
        rw [tp]
        dsimp only
        go_wp2
        refine bodyPost_ret (v := .tuple #[.slice A5 qd.length c5, .int .i64 qn]) (by simp [results, Try.results21, go_sem]) rfl ?_
        rw [HW.out, HQ.out, if_pos HP.out]
        exact ⟨A5, c5, rfl, HR5.out, HB9.out, HNIL.out⟩
      · have tp : decide (0 < sizeI qd) = false := by simpa using hp
        have HP := Lib.hid hp
        clear hp
        go_wp2_with fail
        refine (shapemay_any qd _ _ _ HR5.out HQB.out).mono ?_
        rintro en w6 ⟨rfl, rfl⟩
        rw [tp]
        dsimp only
        go_wp2
        refine bodyPost_ret (v := .tuple #[.slice none 0 0, .int .i64 0]) (by simp [results, Try.results21, go_sem]) rfl ?_
        rw [HW.out, HQ.out, if_neg (Int.not_lt.2 HP.out)]
        exact SummedN.no HB9.out
    · have HW : Hid (pdimsI a b c ls layer = ([], 0)) := Lib.hid (by unfold pdimsI; rw [HSE.out, if_neg (by rintro ⟨_, h⟩; exact hr h)])
      clear hs hok
      by_cases h1 : layer < 1
      · have t1 : decide (layer < 1) = true := by simpa using h1
        clear h1 hr
        go_enter Try.func21, Try.ntmps21
        go_wp2_with fail
        refine HC.out.mono ?_
        rintro en w2 ⟨A2, c2, rfl, hrows, hb2⟩
        have HB2 := Lib.hid (HB0.out.trans (hb2.mono (by omega)))
        clear hb2 hrows
        dsimp only
        go_wp2
        refine bodyPost_ret (v := .tuple #[.slice none 0 0, .int .i64 0]) (by simp [results, Try.results21, go_sem]) rfl ?_
        rw [HW.out]
        exact SummedN.no HB2.out
      · have t1 : decide (layer < 1) = false := by simpa using h1
        have t2 : decide ((ls.length : Int) < layer) = true := decide_eq_true (by omega)
        clear h1 hr
        go_enter Try.func21, Try.ntmps21
        go_wp2_with fail
        refine HC.out.mono ?_
        rintro en w2 ⟨A2, c2, rfl, hrows, hb2⟩
        have HB2 := Lib.hid (HB0.out.trans (hb2.mono (by omega)))
        have K2 := KB.out.below hb2 hsz
        have k3 := K2.cell 3
        simp only [List.getElem?_cons_zero, List.getElem?_cons_succ] at k3
        clear hb2 hrows
        dsimp only
        go_wp2
        refine bodyPost_ret (v := .tuple #[.slice none 0 0, .int .i64 0]) (by simp [results, Try.results21, go_sem]) rfl ?_
        rw [HW.out]
        exact SummedN.no HB2.out
end Go.Proofs.Ytkileiikffomlaa
