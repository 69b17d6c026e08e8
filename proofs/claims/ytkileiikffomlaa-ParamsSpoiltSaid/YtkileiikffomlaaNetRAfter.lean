/- Contract of the reference's after. -/
import Derived.Test.YtkileiikffomlaaNetROut
import Derived.Test.YtkileiikffomlaaNetGives2
import Derived.Test.YtkileiikffomlaaSame
namespace Go.Proofs.Ytkileiikffomlaa
open Go.RowKit
set_option linter.unusedVariables false
set_option linter.unusedSimpArgs false

/-- lengths and 'yes', or 'no' -/
def AftY (w : World) (e : List Int) (en : Ending) (w' : World) : Prop :=
  ∃ g c, en = .returned (.tuple #[.slice (some ⟨g, 0, none⟩) e.length c, .bool true]) ∧ w'.ownsRow w.heap.size 3 1 (.slice (some ⟨g, 0, none⟩) e.length c) e.length (ints .i64 e) ∧ Below w.heap.size w w'
def AftN (w : World) (en : Ending) (w' : World) : Prop := ∃ A n c, en = .returned (.tuple #[.slice A n c, .bool false]) ∧ Below w.heap.size w w'
def Aft (w : World) : Option (List Int) → Ending → World → Prop
  | none => AftN w
  | some e => AftY w e
theorem lit_aft {w w1 : World} {cs : List Value} {e : List Int} {n a : Nat} (hc : cs = ints .i64 e) (hn : e.length = n) (hl : n ≤ 8) (hb : Below w.heap.size w w1) (ha : w1.heap.size = a) :
    AftY w e (.returned (.tuple #[.slice (some ⟨a, 0, none⟩) n n, .bool true])) (w1.alloc (.cells cs.toArray 3)) := by
  subst hc hn ha
  refine ⟨_, _, rfl, ?_, hb.alloc hb.size _⟩
  exact (Blk.fresh w1 3 (ints .i64 e)).ownAll (n := e.length) hb.size (by unfold maxLen; omega) (length_ints _ _)

set_option maxHeartbeats 3200000 in
set_option maxRecDepth 100000 in
theorem after_any (kd out k st pd fr : Int) (fz : Bool) (dv lv : Value) (all : List (List Int)) (d : List Int) (m : Nat) (w : World) (B : Nat) (hB : B ≤ w.heap.size) (hok : LayV.ok ⟨kd, out, k, st, pd, fr, fz⟩) (h : RowsOf w B lv all) (hdr : Reads w B dv (ints .i64 d))
    (hm : all.length = m + 1) (hm2 : m ≤ 1000) (hg : GoodD d) (hma : mayL ⟨kd, out, k, st, pd, fr, fz⟩ (m : Int) = true) (r : Option (List Int)) (hr : givesI ⟨kd, out, k, st, pd, fr, fz⟩ all d = r) :
    Calls Try.prog 33 #[.agg #[.int .i64 kd, .int .i64 out, .int .i64 k, .int .i64 st, .int .i64 pd, .int .i64 fr, .bool fz], dv, lv] w (Aft w r) := by
  obtain ⟨A, c, rfl, _, _⟩ := h.form
  obtain ⟨A', c', rfl, hdc, hdm⟩ := hdr.form
  rw [length_ints] at hdr hdc ⊢
  have hb0 := net_one w (.cells #[.int .i64 kd, .int .i64 out, .int .i64 k, .int .i64 st, .int .i64 pd, .int .i64 fr, .bool fz] 43)
  have HB0 := Lib.hid hb0
  have HD := Lib.hid (hdr.below (hb0.mono hB))
  have HR := Lib.hid hr
  have HH := Lib.hid h
  have HG := Lib.hid hg
  have HM := Lib.hid hma
  have HAL := Lib.hid hm
  have hpos := hg.pos
  have hdl : (d.length : Int) ≤ 3 := by omega
  have hsz : (w.alloc (.cells #[.int .i64 kd, .int .i64 out, .int .i64 k, .int .i64 st, .int .i64 pd, .int .i64 fr, .bool fz] 43)).heap.size = w.heap.size + 1 := by simp
  have HSZ := Lib.hid hsz
  have hBa : B ≤ (w.alloc (.cells #[.int .i64 kd, .int .i64 out, .int .i64 k, .int .i64 st, .int .i64 pd, .int .i64 fr, .bool fz] 43)).heap.size := by omega
  have HBA := Lib.hid hBa
  rw [hm]
  clear hr h hg hok hma hm hdr hb0 hsz hBa
  by_cases hd : kd = 1
  · subst hd
    by_cases h1 : d.length = 1
    · have t1 : ((d.length : Int) == 1) = true := by simp; omega
      have HE : Hid (givesI ⟨1, out, k, st, pd, fr, fz⟩ all d = some [out]) := Lib.hid (by unfold givesI; simp [h1])
      clear h1
      go_enter Try.func33, Try.ntmps33
      go_wp2
      refine bodyPost_ret (v := .tuple #[.slice (some ⟨w.heap.size + 1, 0, none⟩) 1 1, .bool true]) (by simp [results, Try.results33, go_sem]) rfl ?_
      rw [← HR.out, HE.out]
      exact lit_aft (w := w) (cs := [.int .i64 out]) (e := [out]) (n := 1) rfl rfl (by omega) HB0.out HSZ.out
    · have t1 : ((d.length : Int) == 1) = false := by simp; omega
      have HE : Hid (givesI ⟨1, out, k, st, pd, fr, fz⟩ all d = none) := Lib.hid (by unfold givesI; simp [h1])
      clear h1
      go_enter Try.func33, Try.ntmps33
      go_wp2
      refine bodyPost_ret (v := .tuple #[.slice (some ⟨w.heap.size + 1, 0, none⟩) 1 1, .bool false]) (by simp [results, Try.results33, go_sem]) rfl ?_
      rw [← HR.out, HE.out]
      exact ⟨_, _, _, rfl, HB0.out.alloc (by have := HSZ.out; omega) _⟩
  · have t1 : (kd == 1) = false := by simpa using hd
    have T1 := Lib.hid hd
    clear hd
    by_cases hd : kd = 2
    · subst hd
      have HE : Hid (givesI ⟨2, out, k, st, pd, fr, fz⟩ all d = planesI d out ⟨2, out, k, st, pd, fr, fz⟩) := Lib.hid rfl
      by_cases h3 : d.length = 3
      · match d, h3 with
        | [x, a, b], _ =>
          simp only [List.length_cons, List.length_nil, Nat.zero_add, Nat.reduceAdd] at HD ⊢
          obtain ⟨g1, o1, e1, hg1, hx0⟩ := cells_of (k := 0) (x := x) HD.out rfl
          obtain ⟨g2, o2, e2, hg2, hx1⟩ := cells_of (k := 1) (x := a) HD.out rfl
          obtain ⟨g3, o3, e3, hg3, hx2⟩ := cells_of (k := 2) (x := b) HD.out rfl
          subst e1
          injection e2 with e2
          injection e2 with e2 e2'
          subst e2 e2'
          injection e3 with e3
          injection e3 with e3 e3'
          subst e3 e3'
          have hx0 : (w.alloc (.cells #[.int .i64 2, .int .i64 out, .int .i64 k, .int .i64 st, .int .i64 pd, .int .i64 fr, .bool fz] 43)).cell? ⟨g1, o1, none⟩ = some (.int .i64 x) := hx0
          have hp := outI_in a k st pd
          have hq := outI_in b k st pd
          have kb := (Blk.fresh w 43 [.int .i64 2, .int .i64 out, .int .i64 k, .int .i64 st, .int .i64 pd, .int .i64 fr, .bool fz]).drew
          have HP := Lib.hid hp
          have HQ := Lib.hid hq
          clear hp hq
          go_enter Try.func33, Try.ntmps33
          go_upto_region 9 with fail
          refine wp_region_held_drew (S := (fun w' => w'.cell? ⟨g1, o1 + 1, none⟩ = some (.int .i64 a) ∧ w'.cell? ⟨g1, o1 + 2, none⟩ = some (.int .i64 b) ∧ w'.cell? ⟨w.heap.size, 0, none⟩ = some (.int .i64 2) ∧ w'.cell? ⟨w.heap.size, 1, none⟩ = some (.int .i64 out) ∧ w'.cell? ⟨w.heap.size, 2, none⟩ = some (.int .i64 k) ∧ w'.cell? ⟨w.heap.size, 3, none⟩ = some (.int .i64 st) ∧ w'.cell? ⟨w.heap.size, 4, none⟩ = some (.int .i64 pd) ∧ w'.cell? ⟨w.heap.size, 5, none⟩ = some (.int .i64 fr) ∧ w'.cell? ⟨w.heap.size, 6, none⟩ = some (.bool fz))) (by kernel_rfl) (⟨hx1, hx2, kb.cell 0, kb.cell 1, kb.cell 2, kb.cell 3, kb.cell 4, kb.cell 5, kb.cell 6⟩) (fun hHeld => ?_)
          refine' wpAnyH_take (i := 0) (v := _) rfl (by kernel_rfl) (by kernel_rfl) (by kernel_rfl) (fun _ _ _ h => h) (Or.inl ⟨by rfl, ?taq1⟩) (by assumption) ?tbq1
          case taq1 =>
            intro wS hSw
            (try dsimp only at hSw)
            go_simp
            (try (with_reducible rfl))
          (try simp only [List.getElem_toArray, List.getElem_cons_zero, List.getElem_cons_succ, Act.put, List.setIfInBounds_toArray, List.set_cons_zero, List.set_cons_succ])
          refine' wpAnyH_take (i := 1) (v := _) rfl (by kernel_rfl) (by kernel_rfl) (by kernel_rfl) (fun _ _ _ h => h) (Or.inl ⟨by rfl, ?taq2⟩) (by assumption) ?tbq2
          case taq2 =>
            intro wS hSw
            (try dsimp only at hSw)
            go_simp
            (try (with_reducible rfl))
          (try simp only [List.getElem_toArray, List.getElem_cons_zero, List.getElem_cons_succ, Act.put, List.setIfInBounds_toArray, List.set_cons_zero, List.set_cons_succ])
          refine' wpAnyH_take (i := 2) (v := _) rfl (by kernel_rfl) (by kernel_rfl) (by kernel_rfl) (fun _ _ _ h => h) (Or.inl ⟨by rfl, ?taq3⟩) (by assumption) ?tbq3
          case taq3 =>
            intro wS hSw
            (try dsimp only at hSw)
            go_simp
            (try (with_reducible rfl))
          (try simp only [List.getElem_toArray, List.getElem_cons_zero, List.getElem_cons_succ, Act.put, List.setIfInBounds_toArray, List.set_cons_zero, List.set_cons_succ])
          refine' wpAnyH_take (i := 3) (v := _) rfl (by kernel_rfl) (by kernel_rfl) (by kernel_rfl) (fun _ _ _ h => h) (Or.inl ⟨by rfl, ?taq4⟩) (by assumption) ?tbq4
          case taq4 =>
            intro wS hSw
            (try dsimp only at hSw)
            go_simp
            (try (with_reducible rfl))
          (try simp only [List.getElem_toArray, List.getElem_cons_zero, List.getElem_cons_succ, Act.put, List.setIfInBounds_toArray, List.set_cons_zero, List.set_cons_succ])
          refine' wpAnyH_take (i := 4) (v := _) rfl (by kernel_rfl) (by kernel_rfl) (by kernel_rfl) (fun _ _ _ h => h) (Or.inl ⟨by rfl, ?taq5⟩) (by assumption) ?tbq5
          case taq5 =>
            intro wS hSw
            (try dsimp only at hSw)
            go_simp
            (try (with_reducible rfl))
          (try simp only [List.getElem_toArray, List.getElem_cons_zero, List.getElem_cons_succ, Act.put, List.setIfInBounds_toArray, List.set_cons_zero, List.set_cons_succ])
          refine' wpAnyH_take (i := 5) (v := _) rfl (by kernel_rfl) (by kernel_rfl) (by kernel_rfl) (fun _ _ _ h => h) (Or.inl ⟨by rfl, ?taq6⟩) (by assumption) ?tbq6
          case taq6 =>
            intro wS hSw
            (try dsimp only at hSw)
            go_simp
            (try (with_reducible rfl))
          (try simp only [List.getElem_toArray, List.getElem_cons_zero, List.getElem_cons_succ, Act.put, List.setIfInBounds_toArray, List.set_cons_zero, List.set_cons_succ])
          refine' wpAnyH_take (i := 6) (v := _) rfl (by kernel_rfl) (by kernel_rfl) (by kernel_rfl) (fun _ _ _ h => h) (Or.inl ⟨by rfl, ?taq7⟩) (by assumption) ?tbq7
          case taq7 =>
            intro wS hSw
            (try dsimp only at hSw)
            go_simp
            (try (with_reducible rfl))
          (try simp only [List.getElem_toArray, List.getElem_cons_zero, List.getElem_cons_succ, Act.put, List.setIfInBounds_toArray, List.set_cons_zero, List.set_cons_succ])
          refine' wpAnyH_take (i := 7) (v := _) rfl (by kernel_rfl) (by kernel_rfl) (by kernel_rfl) (fun _ _ _ h => h) (Or.inl ⟨by rfl, ?taq8⟩) (by assumption) ?tbq8
          case taq8 =>
            intro wS hSw
            (try dsimp only at hSw)
            go_simp
            (try (with_reducible rfl))
          (try simp only [List.getElem_toArray, List.getElem_cons_zero, List.getElem_cons_succ, Act.put, List.setIfInBounds_toArray, List.set_cons_zero, List.set_cons_succ])
          refine' wpAnyH_take (i := 8) (v := _) rfl (by kernel_rfl) (by kernel_rfl) (by kernel_rfl) (fun _ _ _ h => h) (Or.inl ⟨by rfl, ?taq9⟩) (by assumption) ?tbq9
          case taq9 =>
            intro wS hSw
            (try dsimp only at hSw)
            go_simp
            (try (with_reducible rfl))
          (try simp only [List.getElem_toArray, List.getElem_cons_zero, List.getElem_cons_succ, Act.put, List.setIfInBounds_toArray, List.set_cons_zero, List.set_cons_succ])
          refine' wpAnyH_take (i := 9) (v := _) rfl (by kernel_rfl) (by kernel_rfl) (by kernel_rfl) (fun _ _ _ h => h) (Or.inl ⟨by rfl, ?taq10⟩) (by assumption) ?tbq10
          case taq10 =>
            intro wS hSw
            (try dsimp only at hSw)
            go_simp
            (try (with_reducible rfl))
          (try simp only [List.getElem_toArray, List.getElem_cons_zero, List.getElem_cons_succ, Act.put, List.setIfInBounds_toArray, List.set_cons_zero, List.set_cons_succ])
          refine' wpAnyH_take (i := 10) (v := _) rfl (by kernel_rfl) (by kernel_rfl) (by kernel_rfl) (fun _ _ _ h => h) (Or.inl ⟨by rfl, ?taq11⟩) (by assumption) ?tbq11
          case taq11 =>
            intro wS hSw
            (try dsimp only at hSw)
            go_simp
            (try (with_reducible rfl))
          (try simp only [List.getElem_toArray, List.getElem_cons_zero, List.getElem_cons_succ, Act.put, List.setIfInBounds_toArray, List.set_cons_zero, List.set_cons_succ])
          refine' wpAnyH_take (i := 11) (v := _) rfl (by kernel_rfl) (by kernel_rfl) (by kernel_rfl) (fun _ _ _ h => h) (Or.inl ⟨by rfl, ?taq12⟩) (by assumption) ?tbq12
          case taq12 =>
            intro wS hSw
            (try dsimp only at hSw)
            go_simp
            (try (with_reducible rfl))
          (try simp only [List.getElem_toArray, List.getElem_cons_zero, List.getElem_cons_succ, Act.put, List.setIfInBounds_toArray, List.set_cons_zero, List.set_cons_succ])
          refine wpAnyH_ready (rs := [12]) (by kernel_rfl) (by simp) ?_
          refine AllReadyH.cons rfl (fun K9 hK9 => ?_) AllReadyH.nil
          (try simp only [List.getElem_toArray, List.getElem_cons_zero, List.getElem_cons_succ])
          go_simp
          refine (rplane_any a b k st pd (w.alloc (.cells #[.int .i64 2, .int .i64 out, .int .i64 k, .int .i64 st, .int .i64 pd, .int .i64 fr, .bool fz] 43)).drew).mono ?_
          rintro en w5 ⟨rfl, rfl⟩
          refine hK9.out _ _ (⟨hx1, hx2, kb.cell 0, kb.cell 1, kb.cell 2, kb.cell 3, kb.cell 4, kb.cell 5, kb.cell 6⟩) (fun hHeld9 => ?_)
          clear hK9 K9
          (try simp only [List.getElem_toArray, List.getElem_cons_zero, List.getElem_cons_succ, Act.put, List.setIfInBounds_toArray, List.set_cons_zero, List.set_cons_succ])
          refine' wpAnyH_take (i := 13) (v := _) rfl (by kernel_rfl) (by kernel_rfl) (by kernel_rfl) (fun _ _ _ h => h) (Or.inl ⟨by rfl, ?taq13⟩) (by assumption) ?tbq13
          case taq13 =>
            intro wS hSw
            (try dsimp only at hSw)
            go_simp
            (try (with_reducible rfl))
          (try simp only [List.getElem_toArray, List.getElem_cons_zero, List.getElem_cons_succ, Act.put, List.setIfInBounds_toArray, List.set_cons_zero, List.set_cons_succ])
          refine' wpAnyH_take (i := 14) (v := _) rfl (by kernel_rfl) (by kernel_rfl) (by kernel_rfl) (fun _ _ _ h => h) (Or.inl ⟨by rfl, ?taq14⟩) (by assumption) ?tbq14
          case taq14 =>
            intro wS hSw
            (try dsimp only at hSw)
            go_simp
            (try (with_reducible rfl))
          (try simp only [List.getElem_toArray, List.getElem_cons_zero, List.getElem_cons_succ, Act.put, List.setIfInBounds_toArray, List.set_cons_zero, List.set_cons_succ])
          refine' wpAnyH_take (i := 15) (v := _) rfl (by kernel_rfl) (by kernel_rfl) (by kernel_rfl) (fun _ _ _ h => h) (Or.inl ⟨by rfl, ?taq15⟩) (by assumption) ?tbq15
          case taq15 =>
            intro wS hSw
            (try dsimp only at hSw)
            go_simp
            (try (with_reducible rfl))
          (try simp only [List.getElem_toArray, List.getElem_cons_zero, List.getElem_cons_succ, Act.put, List.setIfInBounds_toArray, List.set_cons_zero, List.set_cons_succ])
          refine' wpAnyH_take (i := 16) (v := _) rfl (by kernel_rfl) (by kernel_rfl) (by kernel_rfl) (fun _ _ _ h => h) (Or.inl ⟨by rfl, ?taq16⟩) (by assumption) ?tbq16
          case taq16 =>
            intro wS hSw
            (try dsimp only at hSw)
            go_simp
            (try (with_reducible rfl))
          (try simp only [List.getElem_toArray, List.getElem_cons_zero, List.getElem_cons_succ, Act.put, List.setIfInBounds_toArray, List.set_cons_zero, List.set_cons_succ])
          refine' wpAnyH_take (i := 17) (v := _) rfl (by kernel_rfl) (by kernel_rfl) (by kernel_rfl) (fun _ _ _ h => h) (Or.inl ⟨by rfl, ?taq17⟩) (by assumption) ?tbq17
          case taq17 =>
            intro wS hSw
            (try dsimp only at hSw)
            go_simp
            (try (with_reducible rfl))
          (try simp only [List.getElem_toArray, List.getElem_cons_zero, List.getElem_cons_succ, Act.put, List.setIfInBounds_toArray, List.set_cons_zero, List.set_cons_succ])
          refine wpAnyH_done (by kernel_rfl) ?_ _
          have hx0' : (w.alloc (.cells #[.int .i64 2, .int .i64 out, .int .i64 k, .int .i64 st, .int .i64 pd, .int .i64 fr, .bool fz] 43)).drew.cell? ⟨g1, o1, none⟩ = some (.int .i64 x) := hx0
          clear kb
          by_cases p0 : outI a k st pd = 0
          · have u0 : decide (0 < outI a k st pd) = false := by simp; omega
            have HN : Hid (planesI [x, a, b] out ⟨2, out, k, st, pd, fr, fz⟩ = none) := Lib.hid (by unfold planesI; simp [p0])
            clear p0
            go_wp2
            refine bodyPost_ret (v := .tuple #[.slice (some ⟨w.heap.size + 1, 0, none⟩) 3 3, .bool false]) (by simp [results, Try.results33, go_sem]) rfl ?_
            rw [← HR.out, HE.out]
            first | rw [HN.out] | (rw [show ([x, a, b] : List Int).headD 0 = x from rfl, HN.out])
            exact ⟨_, _, _, rfl, HB0.out.drew.alloc (by show w.heap.size ≤ (w.alloc _).heap.size; simp) _⟩
          · have u0 : decide (0 < outI a k st pd) = true := by have := HP.out; simp; omega
            by_cases q0 : outI b k st pd = 0
            · have v0 : decide (0 < outI b k st pd) = false := by simp; omega
              have HN : Hid (planesI [x, a, b] out ⟨2, out, k, st, pd, fr, fz⟩ = none) := Lib.hid (by unfold planesI; simp [q0])
              clear p0 q0
              go_wp2
              refine bodyPost_ret (v := .tuple #[.slice (some ⟨w.heap.size + 1, 0, none⟩) 3 3, .bool false]) (by simp [results, Try.results33, go_sem]) rfl ?_
              rw [← HR.out, HE.out]
              first | rw [HN.out] | (rw [show ([x, a, b] : List Int).headD 0 = x from rfl, HN.out])
              exact ⟨_, _, _, rfl, HB0.out.drew.alloc (by show w.heap.size ≤ (w.alloc _).heap.size; simp) _⟩
            · have v0 : decide (0 < outI b k st pd) = true := by have := HQ.out; simp; omega
              have HN : Hid (planesI [x, a, b] out ⟨2, out, k, st, pd, fr, fz⟩ = some [out, outI a k st pd, outI b k st pd]) := Lib.hid (by unfold planesI; simp [p0, q0])
              clear p0 q0
              go_wp2
              refine bodyPost_ret (v := .tuple #[.slice (some ⟨w.heap.size + 1, 0, none⟩) 3 3, .bool true]) (by simp [results, Try.results33, go_sem]) rfl ?_
              rw [← HR.out, HE.out]
              first | rw [HN.out] | (rw [show ([x, a, b] : List Int).headD 0 = x from rfl, HN.out])
              exact lit_aft (w := w) (w1 := (w.alloc (.cells #[.int .i64 2, .int .i64 out, .int .i64 k, .int .i64 st, .int .i64 pd, .int .i64 fr, .bool fz] 43)).drew) (cs := [.int .i64 out, .int .i64 (outI a k st pd), .int .i64 (outI b k st pd)]) (e := [out, outI a k st pd, outI b k st pd]) (n := 3) rfl rfl (by omega) HB0.out.drew HSZ.out
      · have t1 : ((d.length : Int) != 3) = true := by simp; omega
        have HN := Lib.hid (planesI_len (c := out) (l := ⟨2, out, k, st, pd, fr, fz⟩) h3)
        clear h3
        go_enter Try.func33, Try.ntmps33
        go_wp2
        refine bodyPost_ret (v := .tuple #[.slice none 0 0, .bool false]) (by simp [results, Try.results33, go_sem]) rfl ?_
        rw [← HR.out, HE.out]
        rw [HN.out]
        exact ⟨_, _, _, rfl, HB0.out⟩
    · have t2 : (kd == 2) = false := by simpa using hd
      have T2 := Lib.hid hd
      clear hd
      by_cases hd : kd = 3
      · subst hd
        have HE : Hid (givesI ⟨3, out, k, st, pd, fr, fz⟩ all d = planesI d (d.headD 0) ⟨3, out, k, st, pd, fr, fz⟩) := Lib.hid rfl
        by_cases h3 : d.length = 3
        · match d, h3 with
          | [x, a, b], _ =>
            simp only [List.length_cons, List.length_nil, Nat.zero_add, Nat.reduceAdd] at HD ⊢
            obtain ⟨g1, o1, e1, hg1, hx0⟩ := cells_of (k := 0) (x := x) HD.out rfl
            obtain ⟨g2, o2, e2, hg2, hx1⟩ := cells_of (k := 1) (x := a) HD.out rfl
            obtain ⟨g3, o3, e3, hg3, hx2⟩ := cells_of (k := 2) (x := b) HD.out rfl
            subst e1
            injection e2 with e2
            injection e2 with e2 e2'
            subst e2 e2'
            injection e3 with e3
            injection e3 with e3 e3'
            subst e3 e3'
            have hx0 : (w.alloc (.cells #[.int .i64 3, .int .i64 out, .int .i64 k, .int .i64 st, .int .i64 pd, .int .i64 fr, .bool fz] 43)).cell? ⟨g1, o1, none⟩ = some (.int .i64 x) := hx0
            have hp := outI_in a k st pd
            have hq := outI_in b k st pd
            have kb := (Blk.fresh w 43 [.int .i64 3, .int .i64 out, .int .i64 k, .int .i64 st, .int .i64 pd, .int .i64 fr, .bool fz]).drew
            have HP := Lib.hid hp
            have HQ := Lib.hid hq
            clear hp hq
            go_enter Try.func33, Try.ntmps33
            go_upto_region 9 with fail
            refine wp_region_held_drew (S := (fun w' => w'.cell? ⟨g1, o1 + 1, none⟩ = some (.int .i64 a) ∧ w'.cell? ⟨g1, o1 + 2, none⟩ = some (.int .i64 b) ∧ w'.cell? ⟨w.heap.size, 0, none⟩ = some (.int .i64 3) ∧ w'.cell? ⟨w.heap.size, 1, none⟩ = some (.int .i64 out) ∧ w'.cell? ⟨w.heap.size, 2, none⟩ = some (.int .i64 k) ∧ w'.cell? ⟨w.heap.size, 3, none⟩ = some (.int .i64 st) ∧ w'.cell? ⟨w.heap.size, 4, none⟩ = some (.int .i64 pd) ∧ w'.cell? ⟨w.heap.size, 5, none⟩ = some (.int .i64 fr) ∧ w'.cell? ⟨w.heap.size, 6, none⟩ = some (.bool fz))) (by kernel_rfl) (⟨hx1, hx2, kb.cell 0, kb.cell 1, kb.cell 2, kb.cell 3, kb.cell 4, kb.cell 5, kb.cell 6⟩) (fun hHeld => ?_)
            refine' wpAnyH_take (i := 0) (v := _) rfl (by kernel_rfl) (by kernel_rfl) (by kernel_rfl) (fun _ _ _ h => h) (Or.inl ⟨by rfl, ?taq18⟩) (by assumption) ?tbq18
            case taq18 =>
              intro wS hSw
              (try dsimp only at hSw)
              go_simp
              (try (with_reducible rfl))
            (try simp only [List.getElem_toArray, List.getElem_cons_zero, List.getElem_cons_succ, Act.put, List.setIfInBounds_toArray, List.set_cons_zero, List.set_cons_succ])
            refine' wpAnyH_take (i := 1) (v := _) rfl (by kernel_rfl) (by kernel_rfl) (by kernel_rfl) (fun _ _ _ h => h) (Or.inl ⟨by rfl, ?taq19⟩) (by assumption) ?tbq19
            case taq19 =>
              intro wS hSw
              (try dsimp only at hSw)
              go_simp
              (try (with_reducible rfl))
            (try simp only [List.getElem_toArray, List.getElem_cons_zero, List.getElem_cons_succ, Act.put, List.setIfInBounds_toArray, List.set_cons_zero, List.set_cons_succ])
            refine' wpAnyH_take (i := 2) (v := _) rfl (by kernel_rfl) (by kernel_rfl) (by kernel_rfl) (fun _ _ _ h => h) (Or.inl ⟨by rfl, ?taq20⟩) (by assumption) ?tbq20
            case taq20 =>
              intro wS hSw
              (try dsimp only at hSw)
              go_simp
              (try (with_reducible rfl))
            (try simp only [List.getElem_toArray, List.getElem_cons_zero, List.getElem_cons_succ, Act.put, List.setIfInBounds_toArray, List.set_cons_zero, List.set_cons_succ])
            refine' wpAnyH_take (i := 3) (v := _) rfl (by kernel_rfl) (by kernel_rfl) (by kernel_rfl) (fun _ _ _ h => h) (Or.inl ⟨by rfl, ?taq21⟩) (by assumption) ?tbq21
            case taq21 =>
              intro wS hSw
              (try dsimp only at hSw)
              go_simp
              (try (with_reducible rfl))
            (try simp only [List.getElem_toArray, List.getElem_cons_zero, List.getElem_cons_succ, Act.put, List.setIfInBounds_toArray, List.set_cons_zero, List.set_cons_succ])
            refine' wpAnyH_take (i := 4) (v := _) rfl (by kernel_rfl) (by kernel_rfl) (by kernel_rfl) (fun _ _ _ h => h) (Or.inl ⟨by rfl, ?taq22⟩) (by assumption) ?tbq22
            case taq22 =>
              intro wS hSw
              (try dsimp only at hSw)
              go_simp
              (try (with_reducible rfl))
            (try simp only [List.getElem_toArray, List.getElem_cons_zero, List.getElem_cons_succ, Act.put, List.setIfInBounds_toArray, List.set_cons_zero, List.set_cons_succ])
            refine' wpAnyH_take (i := 5) (v := _) rfl (by kernel_rfl) (by kernel_rfl) (by kernel_rfl) (fun _ _ _ h => h) (Or.inl ⟨by rfl, ?taq23⟩) (by assumption) ?tbq23
            case taq23 =>
              intro wS hSw
              (try dsimp only at hSw)
              go_simp
              (try (with_reducible rfl))
            (try simp only [List.getElem_toArray, List.getElem_cons_zero, List.getElem_cons_succ, Act.put, List.setIfInBounds_toArray, List.set_cons_zero, List.set_cons_succ])
            refine' wpAnyH_take (i := 6) (v := _) rfl (by kernel_rfl) (by kernel_rfl) (by kernel_rfl) (fun _ _ _ h => h) (Or.inl ⟨by rfl, ?taq24⟩) (by assumption) ?tbq24
            case taq24 =>
              intro wS hSw
              (try dsimp only at hSw)
              go_simp
              (try (with_reducible rfl))
            (try simp only [List.getElem_toArray, List.getElem_cons_zero, List.getElem_cons_succ, Act.put, List.setIfInBounds_toArray, List.set_cons_zero, List.set_cons_succ])
            refine' wpAnyH_take (i := 7) (v := _) rfl (by kernel_rfl) (by kernel_rfl) (by kernel_rfl) (fun _ _ _ h => h) (Or.inl ⟨by rfl, ?taq25⟩) (by assumption) ?tbq25
            case taq25 =>
              intro wS hSw
              (try dsimp only at hSw)
              go_simp
              (try (with_reducible rfl))
            (try simp only [List.getElem_toArray, List.getElem_cons_zero, List.getElem_cons_succ, Act.put, List.setIfInBounds_toArray, List.set_cons_zero, List.set_cons_succ])
            refine' wpAnyH_take (i := 8) (v := _) rfl (by kernel_rfl) (by kernel_rfl) (by kernel_rfl) (fun _ _ _ h => h) (Or.inl ⟨by rfl, ?taq26⟩) (by assumption) ?tbq26
            case taq26 =>
              intro wS hSw
              (try dsimp only at hSw)
              go_simp
              (try (with_reducible rfl))
            (try simp only [List.getElem_toArray, List.getElem_cons_zero, List.getElem_cons_succ, Act.put, List.setIfInBounds_toArray, List.set_cons_zero, List.set_cons_succ])
            refine' wpAnyH_take (i := 9) (v := _) rfl (by kernel_rfl) (by kernel_rfl) (by kernel_rfl) (fun _ _ _ h => h) (Or.inl ⟨by rfl, ?taq27⟩) (by assumption) ?tbq27
            case taq27 =>
              intro wS hSw
              (try dsimp only at hSw)
              go_simp
              (try (with_reducible rfl))
            (try simp only [List.getElem_toArray, List.getElem_cons_zero, List.getElem_cons_succ, Act.put, List.setIfInBounds_toArray, List.set_cons_zero, List.set_cons_succ])
            refine' wpAnyH_take (i := 10) (v := _) rfl (by kernel_rfl) (by kernel_rfl) (by kernel_rfl) (fun _ _ _ h => h) (Or.inl ⟨by rfl, ?taq28⟩) (by assumption) ?tbq28
            case taq28 =>
              intro wS hSw
              (try dsimp only at hSw)
              go_simp
              (try (with_reducible rfl))
            (try simp only [List.getElem_toArray, List.getElem_cons_zero, List.getElem_cons_succ, Act.put, List.setIfInBounds_toArray, List.set_cons_zero, List.set_cons_succ])
            refine' wpAnyH_take (i := 11) (v := _) rfl (by kernel_rfl) (by kernel_rfl) (by kernel_rfl) (fun _ _ _ h => h) (Or.inl ⟨by rfl, ?taq29⟩) (by assumption) ?tbq29
            case taq29 =>
              intro wS hSw
              (try dsimp only at hSw)
              go_simp
              (try (with_reducible rfl))
            (try simp only [List.getElem_toArray, List.getElem_cons_zero, List.getElem_cons_succ, Act.put, List.setIfInBounds_toArray, List.set_cons_zero, List.set_cons_succ])
            refine wpAnyH_ready (rs := [12]) (by kernel_rfl) (by simp) ?_
            refine AllReadyH.cons rfl (fun K9 hK9 => ?_) AllReadyH.nil
            (try simp only [List.getElem_toArray, List.getElem_cons_zero, List.getElem_cons_succ])
            go_simp
            refine (rplane_any a b k st pd (w.alloc (.cells #[.int .i64 3, .int .i64 out, .int .i64 k, .int .i64 st, .int .i64 pd, .int .i64 fr, .bool fz] 43)).drew).mono ?_
            rintro en w5 ⟨rfl, rfl⟩
            refine hK9.out _ _ (⟨hx1, hx2, kb.cell 0, kb.cell 1, kb.cell 2, kb.cell 3, kb.cell 4, kb.cell 5, kb.cell 6⟩) (fun hHeld9 => ?_)
            clear hK9 K9
            (try simp only [List.getElem_toArray, List.getElem_cons_zero, List.getElem_cons_succ, Act.put, List.setIfInBounds_toArray, List.set_cons_zero, List.set_cons_succ])
            refine' wpAnyH_take (i := 13) (v := _) rfl (by kernel_rfl) (by kernel_rfl) (by kernel_rfl) (fun _ _ _ h => h) (Or.inl ⟨by rfl, ?taq30⟩) (by assumption) ?tbq30
            case taq30 =>
              intro wS hSw
              (try dsimp only at hSw)
              go_simp
              (try (with_reducible rfl))
            (try simp only [List.getElem_toArray, List.getElem_cons_zero, List.getElem_cons_succ, Act.put, List.setIfInBounds_toArray, List.set_cons_zero, List.set_cons_succ])
            refine' wpAnyH_take (i := 14) (v := _) rfl (by kernel_rfl) (by kernel_rfl) (by kernel_rfl) (fun _ _ _ h => h) (Or.inl ⟨by rfl, ?taq31⟩) (by assumption) ?tbq31
            case taq31 =>
              intro wS hSw
              (try dsimp only at hSw)
              go_simp
              (try (with_reducible rfl))
            (try simp only [List.getElem_toArray, List.getElem_cons_zero, List.getElem_cons_succ, Act.put, List.setIfInBounds_toArray, List.set_cons_zero, List.set_cons_succ])
            refine' wpAnyH_take (i := 15) (v := _) rfl (by kernel_rfl) (by kernel_rfl) (by kernel_rfl) (fun _ _ _ h => h) (Or.inl ⟨by rfl, ?taq32⟩) (by assumption) ?tbq32
            case taq32 =>
              intro wS hSw
              (try dsimp only at hSw)
              go_simp
              (try (with_reducible rfl))
            (try simp only [List.getElem_toArray, List.getElem_cons_zero, List.getElem_cons_succ, Act.put, List.setIfInBounds_toArray, List.set_cons_zero, List.set_cons_succ])
            refine' wpAnyH_take (i := 16) (v := _) rfl (by kernel_rfl) (by kernel_rfl) (by kernel_rfl) (fun _ _ _ h => h) (Or.inl ⟨by rfl, ?taq33⟩) (by assumption) ?tbq33
            case taq33 =>
              intro wS hSw
              (try dsimp only at hSw)
              go_simp
              (try (with_reducible rfl))
            (try simp only [List.getElem_toArray, List.getElem_cons_zero, List.getElem_cons_succ, Act.put, List.setIfInBounds_toArray, List.set_cons_zero, List.set_cons_succ])
            refine' wpAnyH_take (i := 17) (v := _) rfl (by kernel_rfl) (by kernel_rfl) (by kernel_rfl) (fun _ _ _ h => h) (Or.inl ⟨by rfl, ?taq34⟩) (by assumption) ?tbq34
            case taq34 =>
              intro wS hSw
              (try dsimp only at hSw)
              go_simp
              (try (with_reducible rfl))
            (try simp only [List.getElem_toArray, List.getElem_cons_zero, List.getElem_cons_succ, Act.put, List.setIfInBounds_toArray, List.set_cons_zero, List.set_cons_succ])
            refine wpAnyH_done (by kernel_rfl) ?_ _
            have hx0' : (w.alloc (.cells #[.int .i64 3, .int .i64 out, .int .i64 k, .int .i64 st, .int .i64 pd, .int .i64 fr, .bool fz] 43)).drew.cell? ⟨g1, o1, none⟩ = some (.int .i64 x) := hx0
            clear kb
            by_cases p0 : outI a k st pd = 0
            · have u0 : decide (0 < outI a k st pd) = false := by simp; omega
              have HN : Hid (planesI [x, a, b] x ⟨3, out, k, st, pd, fr, fz⟩ = none) := Lib.hid (by unfold planesI; simp [p0])
              clear p0
              go_wp2
              refine bodyPost_ret (v := .tuple #[.slice (some ⟨w.heap.size + 1, 0, none⟩) 3 3, .bool false]) (by simp [results, Try.results33, go_sem]) rfl ?_
              rw [← HR.out, HE.out]
              first | rw [HN.out] | (rw [show ([x, a, b] : List Int).headD 0 = x from rfl, HN.out])
              exact ⟨_, _, _, rfl, HB0.out.drew.alloc (by show w.heap.size ≤ (w.alloc _).heap.size; simp) _⟩
            · have u0 : decide (0 < outI a k st pd) = true := by have := HP.out; simp; omega
              by_cases q0 : outI b k st pd = 0
              · have v0 : decide (0 < outI b k st pd) = false := by simp; omega
                have HN : Hid (planesI [x, a, b] x ⟨3, out, k, st, pd, fr, fz⟩ = none) := Lib.hid (by unfold planesI; simp [q0])
                clear p0 q0
                go_wp2
                refine bodyPost_ret (v := .tuple #[.slice (some ⟨w.heap.size + 1, 0, none⟩) 3 3, .bool false]) (by simp [results, Try.results33, go_sem]) rfl ?_
                rw [← HR.out, HE.out]
                first | rw [HN.out] | (rw [show ([x, a, b] : List Int).headD 0 = x from rfl, HN.out])
                exact ⟨_, _, _, rfl, HB0.out.drew.alloc (by show w.heap.size ≤ (w.alloc _).heap.size; simp) _⟩
              · have v0 : decide (0 < outI b k st pd) = true := by have := HQ.out; simp; omega
                have HN : Hid (planesI [x, a, b] x ⟨3, out, k, st, pd, fr, fz⟩ = some [x, outI a k st pd, outI b k st pd]) := Lib.hid (by unfold planesI; simp [p0, q0])
                clear p0 q0
                go_wp2
                refine bodyPost_ret (v := .tuple #[.slice (some ⟨w.heap.size + 1, 0, none⟩) 3 3, .bool true]) (by simp [results, Try.results33, go_sem]) rfl ?_
                rw [← HR.out, HE.out]
                first | rw [HN.out] | (rw [show ([x, a, b] : List Int).headD 0 = x from rfl, HN.out])
                exact lit_aft (w := w) (w1 := (w.alloc (.cells #[.int .i64 3, .int .i64 out, .int .i64 k, .int .i64 st, .int .i64 pd, .int .i64 fr, .bool fz] 43)).drew) (cs := [.int .i64 x, .int .i64 (outI a k st pd), .int .i64 (outI b k st pd)]) (e := [x, outI a k st pd, outI b k st pd]) (n := 3) rfl rfl (by omega) HB0.out.drew HSZ.out
        · have t1 : ((d.length : Int) != 3) = true := by simp; omega
          have HN := Lib.hid (planesI_len (c := d.headD 0) (l := ⟨3, out, k, st, pd, fr, fz⟩) h3)
          clear h3
          go_enter Try.func33, Try.ntmps33
          go_wp2
          refine bodyPost_ret (v := .tuple #[.slice none 0 0, .bool false]) (by simp [results, Try.results33, go_sem]) rfl ?_
          rw [← HR.out, HE.out]
          rw [HN.out]
          exact ⟨_, _, _, rfl, HB0.out⟩
      · have t3 : (kd == 3) = false := by simpa using hd
        have T3 := Lib.hid hd
        clear hd
        by_cases hd : kd = 4
        · subst hd
          have HE : Hid (givesI ⟨4, out, k, st, pd, fr, fz⟩ all d = planesI d (d.headD 0) ⟨4, out, k, st, pd, fr, fz⟩) := Lib.hid rfl
          by_cases h3 : d.length = 3
          · match d, h3 with
            | [x, a, b], _ =>
              simp only [List.length_cons, List.length_nil, Nat.zero_add, Nat.reduceAdd] at HD ⊢
              obtain ⟨g1, o1, e1, hg1, hx0⟩ := cells_of (k := 0) (x := x) HD.out rfl
              obtain ⟨g2, o2, e2, hg2, hx1⟩ := cells_of (k := 1) (x := a) HD.out rfl
              obtain ⟨g3, o3, e3, hg3, hx2⟩ := cells_of (k := 2) (x := b) HD.out rfl
              subst e1
              injection e2 with e2
              injection e2 with e2 e2'
              subst e2 e2'
              injection e3 with e3
              injection e3 with e3 e3'
              subst e3 e3'
              have hx0 : (w.alloc (.cells #[.int .i64 4, .int .i64 out, .int .i64 k, .int .i64 st, .int .i64 pd, .int .i64 fr, .bool fz] 43)).cell? ⟨g1, o1, none⟩ = some (.int .i64 x) := hx0
              have hp := outI_in a k st pd
              have hq := outI_in b k st pd
              have kb := (Blk.fresh w 43 [.int .i64 4, .int .i64 out, .int .i64 k, .int .i64 st, .int .i64 pd, .int .i64 fr, .bool fz]).drew
              have HP := Lib.hid hp
              have HQ := Lib.hid hq
              clear hp hq
              go_enter Try.func33, Try.ntmps33
              go_upto_region 9 with fail
              refine wp_region_held_drew (S := (fun w' => w'.cell? ⟨g1, o1 + 1, none⟩ = some (.int .i64 a) ∧ w'.cell? ⟨g1, o1 + 2, none⟩ = some (.int .i64 b) ∧ w'.cell? ⟨w.heap.size, 0, none⟩ = some (.int .i64 4) ∧ w'.cell? ⟨w.heap.size, 1, none⟩ = some (.int .i64 out) ∧ w'.cell? ⟨w.heap.size, 2, none⟩ = some (.int .i64 k) ∧ w'.cell? ⟨w.heap.size, 3, none⟩ = some (.int .i64 st) ∧ w'.cell? ⟨w.heap.size, 4, none⟩ = some (.int .i64 pd) ∧ w'.cell? ⟨w.heap.size, 5, none⟩ = some (.int .i64 fr) ∧ w'.cell? ⟨w.heap.size, 6, none⟩ = some (.bool fz))) (by kernel_rfl) (⟨hx1, hx2, kb.cell 0, kb.cell 1, kb.cell 2, kb.cell 3, kb.cell 4, kb.cell 5, kb.cell 6⟩) (fun hHeld => ?_)
              refine' wpAnyH_take (i := 0) (v := _) rfl (by kernel_rfl) (by kernel_rfl) (by kernel_rfl) (fun _ _ _ h => h) (Or.inl ⟨by rfl, ?taq35⟩) (by assumption) ?tbq35
              case taq35 =>
                intro wS hSw
                (try dsimp only at hSw)
                go_simp
                (try (with_reducible rfl))
              (try simp only [List.getElem_toArray, List.getElem_cons_zero, List.getElem_cons_succ, Act.put, List.setIfInBounds_toArray, List.set_cons_zero, List.set_cons_succ])
              refine' wpAnyH_take (i := 1) (v := _) rfl (by kernel_rfl) (by kernel_rfl) (by kernel_rfl) (fun _ _ _ h => h) (Or.inl ⟨by rfl, ?taq36⟩) (by assumption) ?tbq36
              case taq36 =>
                intro wS hSw
                (try dsimp only at hSw)
                go_simp
                (try (with_reducible rfl))
              (try simp only [List.getElem_toArray, List.getElem_cons_zero, List.getElem_cons_succ, Act.put, List.setIfInBounds_toArray, List.set_cons_zero, List.set_cons_succ])
              refine' wpAnyH_take (i := 2) (v := _) rfl (by kernel_rfl) (by kernel_rfl) (by kernel_rfl) (fun _ _ _ h => h) (Or.inl ⟨by rfl, ?taq37⟩) (by assumption) ?tbq37
              case taq37 =>
                intro wS hSw
                (try dsimp only at hSw)
                go_simp
                (try (with_reducible rfl))
              (try simp only [List.getElem_toArray, List.getElem_cons_zero, List.getElem_cons_succ, Act.put, List.setIfInBounds_toArray, List.set_cons_zero, List.set_cons_succ])
              refine' wpAnyH_take (i := 3) (v := _) rfl (by kernel_rfl) (by kernel_rfl) (by kernel_rfl) (fun _ _ _ h => h) (Or.inl ⟨by rfl, ?taq38⟩) (by assumption) ?tbq38
              case taq38 =>
                intro wS hSw
                (try dsimp only at hSw)
                go_simp
                (try (with_reducible rfl))
              (try simp only [List.getElem_toArray, List.getElem_cons_zero, List.getElem_cons_succ, Act.put, List.setIfInBounds_toArray, List.set_cons_zero, List.set_cons_succ])
              refine' wpAnyH_take (i := 4) (v := _) rfl (by kernel_rfl) (by kernel_rfl) (by kernel_rfl) (fun _ _ _ h => h) (Or.inl ⟨by rfl, ?taq39⟩) (by assumption) ?tbq39
              case taq39 =>
                intro wS hSw
                (try dsimp only at hSw)
                go_simp
                (try (with_reducible rfl))
              (try simp only [List.getElem_toArray, List.getElem_cons_zero, List.getElem_cons_succ, Act.put, List.setIfInBounds_toArray, List.set_cons_zero, List.set_cons_succ])
              refine' wpAnyH_take (i := 5) (v := _) rfl (by kernel_rfl) (by kernel_rfl) (by kernel_rfl) (fun _ _ _ h => h) (Or.inl ⟨by rfl, ?taq40⟩) (by assumption) ?tbq40
              case taq40 =>
                intro wS hSw
                (try dsimp only at hSw)
                go_simp
                (try (with_reducible rfl))
              (try simp only [List.getElem_toArray, List.getElem_cons_zero, List.getElem_cons_succ, Act.put, List.setIfInBounds_toArray, List.set_cons_zero, List.set_cons_succ])
              refine' wpAnyH_take (i := 6) (v := _) rfl (by kernel_rfl) (by kernel_rfl) (by kernel_rfl) (fun _ _ _ h => h) (Or.inl ⟨by rfl, ?taq41⟩) (by assumption) ?tbq41
              case taq41 =>
                intro wS hSw
                (try dsimp only at hSw)
                go_simp
                (try (with_reducible rfl))
              (try simp only [List.getElem_toArray, List.getElem_cons_zero, List.getElem_cons_succ, Act.put, List.setIfInBounds_toArray, List.set_cons_zero, List.set_cons_succ])
              refine' wpAnyH_take (i := 7) (v := _) rfl (by kernel_rfl) (by kernel_rfl) (by kernel_rfl) (fun _ _ _ h => h) (Or.inl ⟨by rfl, ?taq42⟩) (by assumption) ?tbq42
              case taq42 =>
                intro wS hSw
                (try dsimp only at hSw)
                go_simp
                (try (with_reducible rfl))
              (try simp only [List.getElem_toArray, List.getElem_cons_zero, List.getElem_cons_succ, Act.put, List.setIfInBounds_toArray, List.set_cons_zero, List.set_cons_succ])
              refine' wpAnyH_take (i := 8) (v := _) rfl (by kernel_rfl) (by kernel_rfl) (by kernel_rfl) (fun _ _ _ h => h) (Or.inl ⟨by rfl, ?taq43⟩) (by assumption) ?tbq43
              case taq43 =>
                intro wS hSw
                (try dsimp only at hSw)
                go_simp
                (try (with_reducible rfl))
              (try simp only [List.getElem_toArray, List.getElem_cons_zero, List.getElem_cons_succ, Act.put, List.setIfInBounds_toArray, List.set_cons_zero, List.set_cons_succ])
              refine' wpAnyH_take (i := 9) (v := _) rfl (by kernel_rfl) (by kernel_rfl) (by kernel_rfl) (fun _ _ _ h => h) (Or.inl ⟨by rfl, ?taq44⟩) (by assumption) ?tbq44
              case taq44 =>
                intro wS hSw
                (try dsimp only at hSw)
                go_simp
                (try (with_reducible rfl))
              (try simp only [List.getElem_toArray, List.getElem_cons_zero, List.getElem_cons_succ, Act.put, List.setIfInBounds_toArray, List.set_cons_zero, List.set_cons_succ])
              refine' wpAnyH_take (i := 10) (v := _) rfl (by kernel_rfl) (by kernel_rfl) (by kernel_rfl) (fun _ _ _ h => h) (Or.inl ⟨by rfl, ?taq45⟩) (by assumption) ?tbq45
              case taq45 =>
                intro wS hSw
                (try dsimp only at hSw)
                go_simp
                (try (with_reducible rfl))
              (try simp only [List.getElem_toArray, List.getElem_cons_zero, List.getElem_cons_succ, Act.put, List.setIfInBounds_toArray, List.set_cons_zero, List.set_cons_succ])
              refine' wpAnyH_take (i := 11) (v := _) rfl (by kernel_rfl) (by kernel_rfl) (by kernel_rfl) (fun _ _ _ h => h) (Or.inl ⟨by rfl, ?taq46⟩) (by assumption) ?tbq46
              case taq46 =>
                intro wS hSw
                (try dsimp only at hSw)
                go_simp
                (try (with_reducible rfl))
              (try simp only [List.getElem_toArray, List.getElem_cons_zero, List.getElem_cons_succ, Act.put, List.setIfInBounds_toArray, List.set_cons_zero, List.set_cons_succ])
              refine wpAnyH_ready (rs := [12]) (by kernel_rfl) (by simp) ?_
              refine AllReadyH.cons rfl (fun K9 hK9 => ?_) AllReadyH.nil
              (try simp only [List.getElem_toArray, List.getElem_cons_zero, List.getElem_cons_succ])
              go_simp
              refine (rplane_any a b k st pd (w.alloc (.cells #[.int .i64 4, .int .i64 out, .int .i64 k, .int .i64 st, .int .i64 pd, .int .i64 fr, .bool fz] 43)).drew).mono ?_
              rintro en w5 ⟨rfl, rfl⟩
              refine hK9.out _ _ (⟨hx1, hx2, kb.cell 0, kb.cell 1, kb.cell 2, kb.cell 3, kb.cell 4, kb.cell 5, kb.cell 6⟩) (fun hHeld9 => ?_)
              clear hK9 K9
              (try simp only [List.getElem_toArray, List.getElem_cons_zero, List.getElem_cons_succ, Act.put, List.setIfInBounds_toArray, List.set_cons_zero, List.set_cons_succ])
              refine' wpAnyH_take (i := 13) (v := _) rfl (by kernel_rfl) (by kernel_rfl) (by kernel_rfl) (fun _ _ _ h => h) (Or.inl ⟨by rfl, ?taq47⟩) (by assumption) ?tbq47
              case taq47 =>
                intro wS hSw
                (try dsimp only at hSw)
                go_simp
                (try (with_reducible rfl))
              (try simp only [List.getElem_toArray, List.getElem_cons_zero, List.getElem_cons_succ, Act.put, List.setIfInBounds_toArray, List.set_cons_zero, List.set_cons_succ])
              refine' wpAnyH_take (i := 14) (v := _) rfl (by kernel_rfl) (by kernel_rfl) (by kernel_rfl) (fun _ _ _ h => h) (Or.inl ⟨by rfl, ?taq48⟩) (by assumption) ?tbq48
              case taq48 =>
                intro wS hSw
                (try dsimp only at hSw)
                go_simp
                (try (with_reducible rfl))
              (try simp only [List.getElem_toArray, List.getElem_cons_zero, List.getElem_cons_succ, Act.put, List.setIfInBounds_toArray, List.set_cons_zero, List.set_cons_succ])
              refine' wpAnyH_take (i := 15) (v := _) rfl (by kernel_rfl) (by kernel_rfl) (by kernel_rfl) (fun _ _ _ h => h) (Or.inl ⟨by rfl, ?taq49⟩) (by assumption) ?tbq49
              case taq49 =>
                intro wS hSw
                (try dsimp only at hSw)
                go_simp
                (try (with_reducible rfl))
              (try simp only [List.getElem_toArray, List.getElem_cons_zero, List.getElem_cons_succ, Act.put, List.setIfInBounds_toArray, List.set_cons_zero, List.set_cons_succ])
              refine' wpAnyH_take (i := 16) (v := _) rfl (by kernel_rfl) (by kernel_rfl) (by kernel_rfl) (fun _ _ _ h => h) (Or.inl ⟨by rfl, ?taq50⟩) (by assumption) ?tbq50
              case taq50 =>
                intro wS hSw
                (try dsimp only at hSw)
                go_simp
                (try (with_reducible rfl))
              (try simp only [List.getElem_toArray, List.getElem_cons_zero, List.getElem_cons_succ, Act.put, List.setIfInBounds_toArray, List.set_cons_zero, List.set_cons_succ])
              refine' wpAnyH_take (i := 17) (v := _) rfl (by kernel_rfl) (by kernel_rfl) (by kernel_rfl) (fun _ _ _ h => h) (Or.inl ⟨by rfl, ?taq51⟩) (by assumption) ?tbq51
              case taq51 =>
                intro wS hSw
                (try dsimp only at hSw)
                go_simp
                (try (with_reducible rfl))
              (try simp only [List.getElem_toArray, List.getElem_cons_zero, List.getElem_cons_succ, Act.put, List.setIfInBounds_toArray, List.set_cons_zero, List.set_cons_succ])
              refine wpAnyH_done (by kernel_rfl) ?_ _
              have hx0' : (w.alloc (.cells #[.int .i64 4, .int .i64 out, .int .i64 k, .int .i64 st, .int .i64 pd, .int .i64 fr, .bool fz] 43)).drew.cell? ⟨g1, o1, none⟩ = some (.int .i64 x) := hx0
              clear kb
              by_cases p0 : outI a k st pd = 0
              · have u0 : decide (0 < outI a k st pd) = false := by simp; omega
                have HN : Hid (planesI [x, a, b] x ⟨4, out, k, st, pd, fr, fz⟩ = none) := Lib.hid (by unfold planesI; simp [p0])
                clear p0
                go_wp2
                refine bodyPost_ret (v := .tuple #[.slice (some ⟨w.heap.size + 1, 0, none⟩) 3 3, .bool false]) (by simp [results, Try.results33, go_sem]) rfl ?_
                rw [← HR.out, HE.out]
                first | rw [HN.out] | (rw [show ([x, a, b] : List Int).headD 0 = x from rfl, HN.out])
                exact ⟨_, _, _, rfl, HB0.out.drew.alloc (by show w.heap.size ≤ (w.alloc _).heap.size; simp) _⟩
              · have u0 : decide (0 < outI a k st pd) = true := by have := HP.out; simp; omega
                by_cases q0 : outI b k st pd = 0
                · have v0 : decide (0 < outI b k st pd) = false := by simp; omega
                  have HN : Hid (planesI [x, a, b] x ⟨4, out, k, st, pd, fr, fz⟩ = none) := Lib.hid (by unfold planesI; simp [q0])
                  clear p0 q0
                  go_wp2
                  refine bodyPost_ret (v := .tuple #[.slice (some ⟨w.heap.size + 1, 0, none⟩) 3 3, .bool false]) (by simp [results, Try.results33, go_sem]) rfl ?_
                  rw [← HR.out, HE.out]
                  first | rw [HN.out] | (rw [show ([x, a, b] : List Int).headD 0 = x from rfl, HN.out])
                  exact ⟨_, _, _, rfl, HB0.out.drew.alloc (by show w.heap.size ≤ (w.alloc _).heap.size; simp) _⟩
                · have v0 : decide (0 < outI b k st pd) = true := by have := HQ.out; simp; omega
                  have HN : Hid (planesI [x, a, b] x ⟨4, out, k, st, pd, fr, fz⟩ = some [x, outI a k st pd, outI b k st pd]) := Lib.hid (by unfold planesI; simp [p0, q0])
                  clear p0 q0
                  go_wp2
                  refine bodyPost_ret (v := .tuple #[.slice (some ⟨w.heap.size + 1, 0, none⟩) 3 3, .bool true]) (by simp [results, Try.results33, go_sem]) rfl ?_
                  rw [← HR.out, HE.out]
                  first | rw [HN.out] | (rw [show ([x, a, b] : List Int).headD 0 = x from rfl, HN.out])
                  exact lit_aft (w := w) (w1 := (w.alloc (.cells #[.int .i64 4, .int .i64 out, .int .i64 k, .int .i64 st, .int .i64 pd, .int .i64 fr, .bool fz] 43)).drew) (cs := [.int .i64 x, .int .i64 (outI a k st pd), .int .i64 (outI b k st pd)]) (e := [x, outI a k st pd, outI b k st pd]) (n := 3) rfl rfl (by omega) HB0.out.drew HSZ.out
          · have t1 : ((d.length : Int) != 3) = true := by simp; omega
            have HN := Lib.hid (planesI_len (c := d.headD 0) (l := ⟨4, out, k, st, pd, fr, fz⟩) h3)
            clear h3
            go_enter Try.func33, Try.ntmps33
            go_wp2
            refine bodyPost_ret (v := .tuple #[.slice none 0 0, .bool false]) (by simp [results, Try.results33, go_sem]) rfl ?_
            rw [← HR.out, HE.out]
            rw [HN.out]
            exact ⟨_, _, _, rfl, HB0.out⟩
        · have t4 : (kd == 4) = false := by simpa using hd
          have T4 := Lib.hid hd
          clear hd
          by_cases hd : kd = 5
          · subst hd
            have HE : Hid (givesI ⟨5, out, k, st, pd, fr, fz⟩ all d = some d) := Lib.hid rfl
            go_enter Try.func33, Try.ntmps33
            go_wp2_with (at_builtin; go_loud (refine wpList_extend elem_int _ rfl (.const (.slice none 0 0)) (.tmp 90) rfl (w.heap.size + 1) 0 (.slice none 0 0) [] rfl (World.ownsRow_nil _ _ _ _) B _ (ints .i64 d) rfl HD.out (ints_one _ _) (by rw [length_ints]; unfold maxLen; omega) (by rw [length_ints]; omega) (by have := HSZ.out; omega) ?_; intro A5 c5 w5 hown5 hgrow5 hfr5))
            rw [Nat.zero_add, List.nil_append, length_ints] at hown5
            obtain ⟨g5, rfl⟩ := own_some hown5 hpos.1
            have HO5 := Lib.hid hown5
            have HB5 := Lib.hid (HB0.out.trans (((Below.refl _ _).grown hgrow5 (Nat.le_refl _) (fun k hk => by cases hk)).mono (by have := HSZ.out; omega)))
            clear hown5 hgrow5 hfr5
            rw [length_ints]
            refine bodyPost_ret (v := .tuple #[.slice (some ⟨g5, 0, none⟩) d.length c5, .bool true]) (by simp [results, Try.results33, go_sem]) rfl ?_
            rw [← HR.out, HE.out]
            exact ⟨g5, c5, rfl, own_lower HO5.out (by omega), HB5.out⟩
          · have t5 : (kd == 5) = false := by simpa using hd
            have T5 := Lib.hid hd
            clear hd
            by_cases hd : kd = 6
            · subst hd
              have HE : Hid (givesI ⟨6, out, k, st, pd, fr, fz⟩ all d = some [prodI d]) := Lib.hid rfl
              go_enter Try.func33, Try.ntmps33
              go_wp2_with fail
              go_loop [69, 11] (fun i n => ∃ k : Nat, k ≤ d.length ∧ i = .int .i64 k ∧ n = .int .i64 (prodI (d.take k))) (fun i _ => d.length - (intOf i).toNat)
              case atStart => exact ⟨0, by omega, rfl, rfl⟩
              case round =>
                obtain ⟨j, hj, rfl, rfl⟩ := hrel
                by_cases hlt : j < d.length
                · obtain ⟨x, hx⟩ : ∃ x, d[j]? = some x := ⟨d[j], List.getElem?_eq_getElem hlt⟩
                  have hn := prod_next hx
                  have hp := HG.out.pre j
                  have hp1 := HG.out.pre (j + 1)
                  rw [hn] at hp1
                  have HN := Lib.hid hn
                  obtain ⟨g1, o1, rfl, hg1, hx1⟩ := cells_of HD.out hx
                  have i1 : (0 : Int) ≤ (j : Int) := by omega
                  have i2 : (j : Int) < (d.length : Int) := by omega
                  obtain ⟨p0, p1⟩ := hp
                  obtain ⟨p2, p3⟩ := hp1
                  generalize prodI (d.take j) = P at *
                  clear hn hx hg1
                  go_wp2
                  go_round
                  case rel => exact ⟨j + 1, by omega, by go_num, by rw [HN.out]⟩
                  case measure => simp [intOf]; omega
                · rw [List.take_of_length_le (by omega)]
                  go_wp2
                  refine bodyPost_ret (v := .tuple #[.slice (some ⟨w.heap.size + 1, 0, none⟩) 1 1, .bool true]) (by simp [results, Try.results33, go_sem]) rfl ?_
                  rw [← HR.out, HE.out]
                  exact lit_aft (w := w) (cs := [.int .i64 (prodI d)]) (e := [prodI d]) (n := 1) rfl rfl (by omega) HB0.out HSZ.out
            · have t6 : (kd == 6) = false := by simpa using hd
              have T6 := Lib.hid hd
              clear hd
              by_cases hd : kd = 7
              · subst hd
                have hfr : 0 ≤ fr ∧ fr ≤ (m : Int) - 1 := by
                  have := HM.out
                  unfold mayL at this
                  simp only [Bool.and_eq_true] at this
                  exact inI_of this.1
                obtain ⟨f, rfl⟩ := Int.eq_ofNat_of_zero_le hfr.1
                obtain ⟨x, hx⟩ : ∃ x, all[f]? = some x := ⟨all[f]'(by have := HAL.out; omega), List.getElem?_eq_getElem (by have := HAL.out; omega)⟩
                obtain ⟨gr, og, c1, A1, c1', e1, hgr, hx1, hrx⟩ := (HH.out.below (HB0.out.mono hB)).at_ hx
                injection e1 with e1 _ e3
                subst e1 e3
                have i1 : (0 : Int) ≤ (f : Int) := by omega
                have i2 : (f : Int) < (m : Int) + 1 := by omega
                obtain ⟨bq, hbq⟩ : ∃ bq, (d == x) = bq := ⟨_, rfl⟩
                have HX := Lib.hid hrx
                have HBQ := Lib.hid hbq
                have HE : Hid (givesI ⟨7, out, k, st, pd, f, fz⟩ all d = if bq = true then some d else none) := Lib.hid (by
                  unfold givesI
                  rw [← hbq]
                  by_cases hxd : x = d
                  · subst hxd; simp [hx]
                  · have : ¬ d = x := fun h => hxd h.symm
                    simp [hx, hxd, this])
                have kb := (Blk.fresh w 43 [.int .i64 7, .int .i64 out, .int .i64 k, .int .i64 st, .int .i64 pd, .int .i64 (f : Int), .bool fz]).drew
                have hx2 : (w.alloc (.cells #[.int .i64 7, .int .i64 out, .int .i64 k, .int .i64 st, .int .i64 pd, .int .i64 (f : Int), .bool fz] 43)).drew.cell? ⟨gr, og + f, none⟩ = some (.slice A1 x.length c1') := hx1
                clear hx hrx hfr hbq hx1
                go_enter Try.func33, Try.ntmps33
                go_upto_region 23 with fail
                refine wp_region_held_drew (S := (fun w' => w'.cell? ⟨gr, og + f, none⟩ = some (.slice A1 x.length c1') ∧ w'.cell? ⟨w.heap.size, 0, none⟩ = some (.int .i64 7) ∧ w'.cell? ⟨w.heap.size, 1, none⟩ = some (.int .i64 out) ∧ w'.cell? ⟨w.heap.size, 2, none⟩ = some (.int .i64 k) ∧ w'.cell? ⟨w.heap.size, 3, none⟩ = some (.int .i64 st) ∧ w'.cell? ⟨w.heap.size, 4, none⟩ = some (.int .i64 pd) ∧ w'.cell? ⟨w.heap.size, 5, none⟩ = some (.int .i64 (f : Int)) ∧ w'.cell? ⟨w.heap.size, 6, none⟩ = some (.bool fz))) (by kernel_rfl) (⟨hx2, kb.cell 0, kb.cell 1, kb.cell 2, kb.cell 3, kb.cell 4, kb.cell 5, kb.cell 6⟩) (fun hHeld => ?_)
                refine' wpAnyH_take (i := 0) (v := _) rfl (by kernel_rfl) (by kernel_rfl) (by kernel_rfl) (fun _ _ _ h => h) (Or.inl ⟨by rfl, ?taq52⟩) (by assumption) ?tbq52
                case taq52 =>
                  intro wS hSw
                  (try dsimp only at hSw)
                  go_simp
                  (try (with_reducible rfl))
                (try simp only [List.getElem_toArray, List.getElem_cons_zero, List.getElem_cons_succ, Act.put, List.setIfInBounds_toArray, List.set_cons_zero, List.set_cons_succ])
                refine' wpAnyH_take (i := 2) (v := _) rfl (by kernel_rfl) (by kernel_rfl) (by kernel_rfl) (fun _ _ _ h => h) (Or.inl ⟨by rfl, ?taq53⟩) (by assumption) ?tbq53
                case taq53 =>
                  intro wS hSw
                  (try dsimp only at hSw)
                  go_simp
                  (try (with_reducible rfl))
                (try simp only [List.getElem_toArray, List.getElem_cons_zero, List.getElem_cons_succ, Act.put, List.setIfInBounds_toArray, List.set_cons_zero, List.set_cons_succ])
                refine' wpAnyH_take (i := 3) (v := _) rfl (by kernel_rfl) (by kernel_rfl) (by kernel_rfl) (fun _ _ _ h => h) (Or.inl ⟨by rfl, ?taq54⟩) (by assumption) ?tbq54
                case taq54 =>
                  intro wS hSw
                  (try dsimp only at hSw)
                  go_simp
                  (try (with_reducible rfl))
                (try simp only [List.getElem_toArray, List.getElem_cons_zero, List.getElem_cons_succ, Act.put, List.setIfInBounds_toArray, List.set_cons_zero, List.set_cons_succ])
                refine' wpAnyH_take (i := 4) (v := _) rfl (by kernel_rfl) (by kernel_rfl) (by kernel_rfl) (fun _ _ _ h => h) (Or.inl ⟨by rfl, ?taq55⟩) (by assumption) ?tbq55
                case taq55 =>
                  intro wS hSw
                  (try dsimp only at hSw)
                  go_simp
                  (try (with_reducible rfl))
                (try simp only [List.getElem_toArray, List.getElem_cons_zero, List.getElem_cons_succ, Act.put, List.setIfInBounds_toArray, List.set_cons_zero, List.set_cons_succ])
                refine' wpAnyH_take (i := 5) (v := _) rfl (by kernel_rfl) (by kernel_rfl) (by kernel_rfl) (fun _ _ _ h => h) (Or.inl ⟨by rfl, ?taq56⟩) (by assumption) ?tbq56
                case taq56 =>
                  intro wS hSw
                  (try dsimp only at hSw)
                  go_simp
                  (try (with_reducible rfl))
                (try simp only [List.getElem_toArray, List.getElem_cons_zero, List.getElem_cons_succ, Act.put, List.setIfInBounds_toArray, List.set_cons_zero, List.set_cons_succ])
                refine' wpAnyH_take (i := 6) (v := _) rfl (by kernel_rfl) (by kernel_rfl) (by kernel_rfl) (fun _ _ _ h => h) (Or.inl ⟨by rfl, ?taq57⟩) (by assumption) ?tbq57
                case taq57 =>
                  intro wS hSw
                  (try dsimp only at hSw)
                  go_simp
                  (try (with_reducible rfl))
                (try simp only [List.getElem_toArray, List.getElem_cons_zero, List.getElem_cons_succ, Act.put, List.setIfInBounds_toArray, List.set_cons_zero, List.set_cons_succ])
                refine' wpAnyH_take (i := 7) (v := _) rfl (by kernel_rfl) (by kernel_rfl) (by kernel_rfl) (fun _ _ _ h => h) (Or.inl ⟨by rfl, ?taq58⟩) (by assumption) ?tbq58
                case taq58 =>
                  intro wS hSw
                  (try dsimp only at hSw)
                  go_simp
                  (try (with_reducible rfl))
                (try simp only [List.getElem_toArray, List.getElem_cons_zero, List.getElem_cons_succ, Act.put, List.setIfInBounds_toArray, List.set_cons_zero, List.set_cons_succ])
                refine wpAnyH_ready (rs := [1]) (by kernel_rfl) (by simp) ?_
                refine AllReadyH.cons rfl (fun K9 hK9 => ?_) AllReadyH.nil
                (try simp only [List.getElem_toArray, List.getElem_cons_zero, List.getElem_cons_succ])
                rw [if_pos (by rfl)]
                refine wp_extend elem_int ((w.alloc (.cells #[.int .i64 7, .int .i64 out, .int .i64 k, .int .i64 st, .int .i64 pd, .int .i64 (f : Int), .bool fz] 43)).drew) _ _ (by rfl) (w.heap.size + 1) 0 (.slice none 0 0) [] (by rfl) (World.ownsRow_nil _ _ _ _) B _ (ints .i64 d) (by rfl) HD.out.drew (ints_one _ _) (by rw [length_ints]; unfold maxLen; omega) (by rw [length_ints]; omega) (by show w.heap.size + 1 ≤ (w.alloc _).heap.size; simp) ?_
                intro A5 c5 w5 hown5 hgrow5 hfr5
                rw [Nat.zero_add, List.nil_append, length_ints] at hown5
                obtain ⟨g5, rfl⟩ := own_some hown5 hpos.1
                have hz5 : (w.alloc (.cells #[.int .i64 7, .int .i64 out, .int .i64 k, .int .i64 st, .int .i64 pd, .int .i64 (f : Int), .bool fz] 43)).drew.heap.size = w.heap.size + 1 := by show (w.alloc _).heap.size = _; simp
                have hb5 : Below (w.alloc (.cells #[.int .i64 7, .int .i64 out, .int .i64 k, .int .i64 st, .int .i64 pd, .int .i64 (f : Int), .bool fz] 43)).drew.heap.size (w.alloc (.cells #[.int .i64 7, .int .i64 out, .int .i64 k, .int .i64 st, .int .i64 pd, .int .i64 (f : Int), .bool fz] 43)).drew w5 := (Below.refl _ _).grown hgrow5 (Nat.le_refl _) (fun k hk => by cases hk)
                have hs5 := hb5.size
                have HO5 := Lib.hid hown5
                have HB5 := Lib.hid (HB0.out.drew.trans (hb5.mono (by omega)))
                have kb5 := kb.below hb5 kb.lt
                have hx5 : w5.cell? ⟨gr, og + f, none⟩ = some (.slice A1 x.length c1') := (hb5.cell (p := ⟨gr, og + f, none⟩) (by show gr < _; omega)).trans hx2
                have HD5 := Lib.hid (HD.out.drew.below (hb5.mono (by omega)))
                have HX5 := Lib.hid (HX.out.drew.below (hb5.mono (by omega)))
                rw [Nat.zero_add, length_ints]
                clear hown5 hgrow5 hfr5 hb5
                refine hK9.out _ _ (⟨hx5, kb5.cell 0, kb5.cell 1, kb5.cell 2, kb5.cell 3, kb5.cell 4, kb5.cell 5, kb5.cell 6⟩) (fun hHeld9 => ?_)
                clear hK9 K9
                (try simp only [List.getElem_toArray, List.getElem_cons_zero, List.getElem_cons_succ, Act.put, List.setIfInBounds_toArray, List.set_cons_zero, List.set_cons_succ])
                refine wpAnyH_ready (rs := [8]) (by kernel_rfl) (by simp) ?_
                refine AllReadyH.cons rfl (fun K9 hK9 => ?_) AllReadyH.nil
                (try simp only [List.getElem_toArray, List.getElem_cons_zero, List.getElem_cons_succ])
                go_simp
                refine (sameints_any d x _ _ w5 B B HD5.out HX5.out).mono ?_
                rw [HBQ.out]
                rintro en w6 ⟨rfl, n6, rfl⟩
                refine hK9.out _ _ (⟨hx5, kb5.cell 0, kb5.cell 1, kb5.cell 2, kb5.cell 3, kb5.cell 4, kb5.cell 5, kb5.cell 6⟩) (fun hHeld9 => ?_)
                clear hK9 K9
                (try simp only [List.getElem_toArray, List.getElem_cons_zero, List.getElem_cons_succ, Act.put, List.setIfInBounds_toArray, List.set_cons_zero, List.set_cons_succ])
                refine' wpAnyH_take (i := 9) (v := _) rfl (by kernel_rfl) (by kernel_rfl) (by kernel_rfl) (fun _ _ _ h => h) (Or.inl ⟨by rfl, ?taq59⟩) (by assumption) ?tbq59
                case taq59 =>
                  intro wS hSw
                  (try dsimp only at hSw)
                  go_simp
                  (try (with_reducible rfl))
                (try simp only [List.getElem_toArray, List.getElem_cons_zero, List.getElem_cons_succ, Act.put, List.setIfInBounds_toArray, List.set_cons_zero, List.set_cons_succ])
                refine' wpAnyH_take (i := 10) (v := _) rfl (by kernel_rfl) (by kernel_rfl) (by kernel_rfl) (fun _ _ _ h => h) (Or.inl ⟨by rfl, ?taq60⟩) (by assumption) ?tbq60
                case taq60 =>
                  intro wS hSw
                  (try dsimp only at hSw)
                  go_simp
                  (try (with_reducible rfl))
                (try simp only [List.getElem_toArray, List.getElem_cons_zero, List.getElem_cons_succ, Act.put, List.setIfInBounds_toArray, List.set_cons_zero, List.set_cons_succ])
                refine wpAnyH_done (by kernel_rfl) ?_ _
                clear kb kb5 hx5 hx2 hHeld hHeld9
                cases bq with
                | true =>
                  go_wp2
                  refine bodyPost_ret (v := .tuple #[.slice (some ⟨g5, 0, none⟩) d.length c5, .bool true]) (by simp [results, Try.results33, go_sem]) rfl ?_
                  rw [← HR.out, HE.out]
                  (first | rw [if_pos rfl] | rw [if_pos trivial])
                  exact ⟨g5, c5, rfl, own_lower (show (w5.drewN n6).ownsRow (w.heap.size + 1) _ _ _ _ _ from HO5.out) (by omega), net_drewN HB5.out n6⟩
                | false =>
                  go_wp2
                  refine bodyPost_ret (v := .tuple #[.slice (some ⟨g5, 0, none⟩) d.length c5, .bool false]) (by simp [results, Try.results33, go_sem]) rfl ?_
                  rw [← HR.out, HE.out]
                  (first | rw [if_neg (by decide)] | rw [if_neg (fun h => h)])
                  exact ⟨_, _, _, rfl, net_drewN HB5.out n6⟩
              · have t7 : (kd == 7) = false := by simpa using hd
                have T7 := Lib.hid hd
                clear hd
                exfalso
                have := mayL_kind HM.out
                have h1 := T1.out
                have h2 := T2.out
                have h3 := T3.out
                have h4 := T4.out
                have h5 := T5.out
                have h6 := T6.out
                have h7 := T7.out
                simp only at this
                omega
end Go.Proofs.Ytkileiikffomlaa
