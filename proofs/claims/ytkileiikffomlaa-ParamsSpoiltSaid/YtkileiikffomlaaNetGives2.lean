/- Contract of check.gives. -/
import Derived.Test.YtkileiikffomlaaNetGives
import Derived.StillTailTactics
import Derived.Deep.RegionHeld3
import Derived.Deep.DrawnRows
namespace Go.Proofs.Ytkileiikffomlaa
open Go.RowKit
set_option linter.unusedVariables false
set_option linter.unusedSimpArgs false

/-- a row of rows of numbers -/
def RowsOf (w : World) (B : Nat) (v : Value) (all : List (List Int)) : Prop :=
  ∃ vs, Reads w B v vs ∧ vs.length = all.length ∧ Hid (∀ (j : Nat) u d, vs[j]? = some u → all[j]? = some d → Reads w B u (ints .i64 d))
section
variable {w w' : World} {B B' : Nat} {v : Value} {all : List (List Int)}
theorem RowsOf.keep (h : RowsOf w B v all) (hk : ∀ p : Addr, p.block < B → w'.cell? p = w.cell? p) : RowsOf w' B v all := by
  obtain ⟨vs, h1, h2, h3⟩ := h
  exact ⟨vs, h1.keep hk, h2, Lib.hid (fun j u d hu hd => (h3.out j u d hu hd).keep hk)⟩
theorem RowsOf.below (h : RowsOf w B v all) (hb : Below B w w') : RowsOf w' B v all := h.keep fun _ hp => hb.cell hp
theorem RowsOf.drewN (h : RowsOf w B v all) (n : Nat) : RowsOf (w.drewN n) B v all := h.keep fun _ _ => rfl
theorem RowsOf.more (h : RowsOf w B v all) (hB : B ≤ B') : RowsOf w B' v all := by
  obtain ⟨vs, h1, h2, h3⟩ := h
  exact ⟨vs, h1.more hB, h2, Lib.hid (fun j u d hu hd => (h3.out j u d hu hd).more hB)⟩
theorem RowsOf.form (h : RowsOf w B v all) : ∃ A c, v = .slice A all.length c ∧ all.length ≤ c ∧ c ≤ maxLen := by
  obtain ⟨vs, h1, h2, h3⟩ := h
  obtain ⟨A, c, e, h4⟩ := h1.form
  rw [h2] at e h4
  exact ⟨A, c, e, h4⟩
theorem RowsOf.at_ (h : RowsOf w B v all) {k : Nat} {d : List Int} (hd : all[k]? = some d) :
    ∃ g o c A' c', v = .slice (some ⟨g, o, none⟩) all.length c ∧ g < B ∧ w.cell? ⟨g, o + k, none⟩ = some (.slice A' d.length c') ∧ Reads w B (.slice A' d.length c') (ints .i64 d) := by
  obtain ⟨vs, ⟨A, n, c, e, hl, hc, hm, ha⟩, h2, h3⟩ := h
  have hk := (List.getElem?_eq_some_iff.1 hd).1
  obtain ⟨g, o, rfl, hg, hx⟩ := ha.out (by omega)
  obtain ⟨u, hu⟩ : ∃ u, vs[k]? = some u := ⟨vs[k]'(by omega), List.getElem?_eq_getElem (by omega)⟩
  have hr := h3.out k u d hu hd
  obtain ⟨A', c', rfl, _⟩ := hr.form
  rw [length_ints] at hr hu
  exact ⟨g, o, c, A', c', by rw [e, ← hl, h2], hg, hx k _ hu, hr⟩
end
theorem own_some {w : World} {base n : Nat} {e : TypeId} {A : Option Addr} {m c : Nat} {xs : List Value} (h : w.ownsRow base e 1 (.slice A m c) n xs) (hn : 0 < n) : ∃ g, A = some ⟨g, 0, none⟩ := by
  obtain ⟨g, cap, rest, e, _⟩ := own_blk h hn
  injection e with e1
  exact ⟨g, e1⟩
theorem cells_of {w : World} {B n c : Nat} {A : Option Addr} {d : List Int} (h : Reads w B (.slice A n c) (ints .i64 d)) {k : Nat} {x : Int} (hk : d[k]? = some x) : ∃ g o, A = some ⟨g, o, none⟩ ∧ g < B ∧ w.cell? ⟨g, o + k, none⟩ = some (.int .i64 x) := by
  obtain ⟨A', n', c', e, hl, hc, hm, ha⟩ := h
  injection e with e1 e2 e3
  subst e1 e2 e3
  have := (List.getElem?_eq_some_iff.1 hk).1
  rw [length_ints] at hl
  obtain ⟨g, o, rfl, hg, hx⟩ := ha.out (by omega)
  exact ⟨g, o, rfl, hg, hx k _ (by rw [ints, List.getElem?_map, hk]; rfl)⟩
theorem givesI_eq (l : LayV) (all : List (List Int)) (d : List Int) : givesI l all d = if l.kind = 1 then (if d.length = 1 then some [l.out] else none) else if l.kind = 2 then planesI d l.out l else if l.kind = 3 then planesI d (d.headD 0) l else if l.kind = 4 then planesI d (d.headD 0) l
  else if l.kind = 5 then some d else if l.kind = 6 then some [prodI d] else if l.kind = 7 then (if all.getD l.frm.toNat [] = d then some d else none) else none := rfl

set_option maxHeartbeats 3200000 in
set_option maxRecDepth 100000 in
theorem gives_any (kd out k st pd fr : Int) (fz : Bool) (lv : Value) (all : List (List Int)) (d : List Int) (m : Nat) (w : World) (B : Nat) (hB : B ≤ w.heap.size) (hok : LayV.ok ⟨kd, out, k, st, pd, fr, fz⟩) (h : RowsOf w B lv all)
    (hm : all.length = m + 1) (hm2 : m ≤ 1000) (hd : all[m]? = some d) (hg : GoodD d) (hma : mayL ⟨kd, out, k, st, pd, fr, fz⟩ (m : Int) = true) (r : Option (List Int)) (hr : givesI ⟨kd, out, k, st, pd, fr, fz⟩ all d = r) :
    Calls Try.prog 32 #[.agg #[.int .i64 kd, .int .i64 out, .int .i64 k, .int .i64 st, .int .i64 pd, .int .i64 fr, .bool fz], lv] w (Gave w r) := by
  obtain ⟨A, c, rfl, _, _⟩ := h.form
  have hb0 := net_one w (.cells #[.int .i64 kd, .int .i64 out, .int .i64 k, .int .i64 st, .int .i64 pd, .int .i64 fr, .bool fz] 43)
  have HB0 := Lib.hid hb0
  obtain ⟨g, o, c2, A', c', e1, hgB, hc0, hrd⟩ := (h.below (hb0.mono hB)).at_ hd
  injection e1 with e1 _ e3
  subst e1 e3
  have HD := Lib.hid hrd
  have HR := Lib.hid hr
  have HH := Lib.hid h
  have HG := Lib.hid hg
  have HOK := Lib.hid hok
  have HM := Lib.hid hma
  have HAL := Lib.hid hm
  have hpos := hg.pos
  have hdl : (d.length : Int) ≤ 3 := by omega
  have hsz : (w.alloc (.cells #[.int .i64 kd, .int .i64 out, .int .i64 k, .int .i64 st, .int .i64 pd, .int .i64 fr, .bool fz] 43)).heap.size = w.heap.size + 1 := by simp
  have HSZ := Lib.hid hsz
  have hBa : B ≤ (w.alloc (.cells #[.int .i64 kd, .int .i64 out, .int .i64 k, .int .i64 st, .int .i64 pd, .int .i64 fr, .bool fz] 43)).heap.size := by omega
  have HBA := Lib.hid hBa
  rw [hm]
  clear hr h hg hok hma hd hm hrd hb0 hsz hBa
  by_cases hd : kd = 1
  · subst hd
    by_cases h1 : d.length = 1
    · have t1 : ((d.length : Int) == 1) = true := by simp; omega
      have HE : Hid (givesI ⟨1, out, k, st, pd, fr, fz⟩ all d = some [out]) := Lib.hid (by unfold givesI; simp [h1])
      clear h1
      go_enter Try.func32, Try.ntmps32
      go_wp2
      go_ret
      rw [← HR.out, HE.out]
      exact lit_gave (w := w) (cs := [.int .i64 out]) (e := [out]) (n := 1) rfl rfl (by omega) HB0.out HSZ.out
    · have t1 : ((d.length : Int) == 1) = false := by simp; omega
      have HE : Hid (givesI ⟨1, out, k, st, pd, fr, fz⟩ all d = none) := Lib.hid (by unfold givesI; simp [h1])
      clear h1
      go_enter Try.func32, Try.ntmps32
      go_wp2
      go_ret
      rw [← HR.out, HE.out]
      exact ⟨rfl, HB0.out⟩
  · have t1 : (kd == 1) = false := by simpa using hd
    have T1 := Lib.hid hd
    clear hd
    by_cases hd : kd = 2
    · subst hd
      have HE : Hid (givesI ⟨2, out, k, st, pd, fr, fz⟩ all d = planesI d out ⟨2, out, k, st, pd, fr, fz⟩) := Lib.hid rfl
      go_enter Try.func32, Try.ntmps32
      go_wp2_with fail
      refine (planes_any d _ out 2 out k st pd fr fz _ B HBA.out HD.out HOK.out r (by rw [← HE.out]; exact HR.out)).mono ?_
      rintro en w5 hq
      cases r with
      | none =>
        obtain ⟨rfl, hb5⟩ := hq
        have HB5 := Lib.hid hb5
        clear hb5
        go_wp2
        go_ret
        exact ⟨rfl, HB0.out.trans (HB5.out.mono (by have := HSZ.out; omega))⟩
      | some e =>
        obtain ⟨g5, c5, rfl, hown5, hb5⟩ := hq
        have HO5 := Lib.hid hown5
        have HB5 := Lib.hid hb5
        clear hown5 hb5
        go_wp2
        go_ret
        exact ⟨g5, c5, rfl, own_lower HO5.out (by have := HSZ.out; omega), HB0.out.trans (HB5.out.mono (by have := HSZ.out; omega))⟩
    · have t2 : (kd == 2) = false := by simpa using hd
      have T2 := Lib.hid hd
      clear hd
      by_cases hd : kd = 3
      · subst hd
        have HE : Hid (givesI ⟨3, out, k, st, pd, fr, fz⟩ all d = planesI d (d.headD 0) ⟨3, out, k, st, pd, fr, fz⟩) := Lib.hid rfl
        obtain ⟨x, hx⟩ : ∃ x, d[0]? = some x := ⟨d[0]'(by omega), List.getElem?_eq_getElem (by omega)⟩
        obtain ⟨g1, o1, rfl, hg1, hx1⟩ := cells_of HD.out hx
        have hx0 : d.headD 0 = x := by cases d with
          | nil => simp at hx
          | cons y d => simp at hx ⊢; exact hx
        rw [hx0] at HE
        have z0 : (0 : Int) < (d.length : Int) := by omega
        have hx2 : (w.alloc (.cells #[.int .i64 3, .int .i64 out, .int .i64 k, .int .i64 st, .int .i64 pd, .int .i64 fr, .bool fz] 43)).cell? ⟨g1, o1, none⟩ = some (.int .i64 x) := hx1
        clear hx hx0 hx1
        go_enter Try.func32, Try.ntmps32
        go_upto_region 10 with fail
        have kb := (Blk.fresh w 43 [.int .i64 3, .int .i64 out, .int .i64 k, .int .i64 st, .int .i64 pd, .int .i64 fr, .bool fz]).drew
        refine wp_region_held_drew (S := (fun w' => w'.cell? ⟨g1, o1, none⟩ = some (.int .i64 x) ∧ w'.cell? ⟨w.heap.size, 0, none⟩ = some (.int .i64 3) ∧ w'.cell? ⟨w.heap.size, 1, none⟩ = some (.int .i64 out) ∧ w'.cell? ⟨w.heap.size, 2, none⟩ = some (.int .i64 k) ∧ w'.cell? ⟨w.heap.size, 3, none⟩ = some (.int .i64 st) ∧ w'.cell? ⟨w.heap.size, 4, none⟩ = some (.int .i64 pd) ∧ w'.cell? ⟨w.heap.size, 5, none⟩ = some (.int .i64 fr) ∧ w'.cell? ⟨w.heap.size, 6, none⟩ = some (.bool fz))) (by kernel_rfl) (⟨hx2, kb.cell 0, kb.cell 1, kb.cell 2, kb.cell 3, kb.cell 4, kb.cell 5, kb.cell 6⟩) (fun hHeld => ?_)
        refine' wpAnyH_take (i := 0) (v := _) rfl (by kernel_rfl) (by kernel_rfl) (by kernel_rfl) (fun _ _ _ h => h) (Or.inl ⟨by rfl, ?taq1⟩) (by assumption) ?tbq1
        case taq1 =>
          intro wS hSw
          (try dsimp only at hSw)
          go_simp
          (try (with_reducible rfl))
        (try simp only [List.getElem_toArray, List.getElem_cons_zero, List.getElem_cons_succ, Act.put, List.setIfInBounds_toArray, List.set_cons_zero, List.set_cons_succ])
        refine' wpAnyH_take (i := 1) (v := _) rfl (by kernel_rfl) (by kernel_rfl) (by kernel_rfl) (fun _ _ _ h => h) (Or.inl ⟨by rfl, ?taq2⟩) (by assumption) ?tbq2
        case taq2 =>
          intro wS hSw
          (try dsimp only at hSw)
          go_simp
          (try (with_reducible rfl))
        (try simp only [List.getElem_toArray, List.getElem_cons_zero, List.getElem_cons_succ, Act.put, List.setIfInBounds_toArray, List.set_cons_zero, List.set_cons_succ])
        refine' wpAnyH_take (i := 2) (v := _) rfl (by kernel_rfl) (by kernel_rfl) (by kernel_rfl) (fun _ _ _ h => h) (Or.inl ⟨by rfl, ?taq3⟩) (by assumption) ?tbq3
        case taq3 =>
          intro wS hSw
          (try dsimp only at hSw)
          go_simp
          (try (with_reducible rfl))
        (try simp only [List.getElem_toArray, List.getElem_cons_zero, List.getElem_cons_succ, Act.put, List.setIfInBounds_toArray, List.set_cons_zero, List.set_cons_succ])
        refine' wpAnyH_take (i := 3) (v := _) rfl (by kernel_rfl) (by kernel_rfl) (by kernel_rfl) (fun _ _ _ h => h) (Or.inl ⟨by rfl, ?taq4⟩) (by assumption) ?tbq4
        case taq4 =>
          intro wS hSw
          (try dsimp only at hSw)
          go_simp
          (try (with_reducible rfl))
        (try simp only [List.getElem_toArray, List.getElem_cons_zero, List.getElem_cons_succ, Act.put, List.setIfInBounds_toArray, List.set_cons_zero, List.set_cons_succ])
        refine' wpAnyH_take (i := 4) (v := _) rfl (by kernel_rfl) (by kernel_rfl) (by kernel_rfl) (fun _ _ _ h => h) (Or.inl ⟨by rfl, ?taq5⟩) (by assumption) ?tbq5
        case taq5 =>
          intro wS hSw
          (try dsimp only at hSw)
          go_simp
          (try (with_reducible rfl))
        (try simp only [List.getElem_toArray, List.getElem_cons_zero, List.getElem_cons_succ, Act.put, List.setIfInBounds_toArray, List.set_cons_zero, List.set_cons_succ])
        refine wpAnyH_ready (rs := [5]) (by kernel_rfl) (by simp) ?_
        refine AllReadyH.cons rfl (fun K9 hK9 => ?_) AllReadyH.nil
        (try simp only [List.getElem_toArray, List.getElem_cons_zero, List.getElem_cons_succ])
        go_simp
        refine (planes_any d _ x 3 out k st pd fr fz (w.alloc (.cells #[.int .i64 3, .int .i64 out, .int .i64 k, .int .i64 st, .int .i64 pd, .int .i64 fr, .bool fz] 43)).drew B (by exact HBA.out) (by exact HD.out.drew) HOK.out r (by rw [← HE.out]; exact HR.out)).mono ?_
        rintro en w5 hq
        have hb5 : Below (w.alloc (.cells #[.int .i64 3, .int .i64 out, .int .i64 k, .int .i64 st, .int .i64 pd, .int .i64 fr, .bool fz] 43)).drew.heap.size (w.alloc (.cells #[.int .i64 3, .int .i64 out, .int .i64 k, .int .i64 st, .int .i64 pd, .int .i64 fr, .bool fz] 43)).drew w5 := by cases r with
          | none => exact hq.2
          | some e => obtain ⟨g5, c5, h1, h2, h3⟩ := hq; exact h3
        have kb5 := kb.below hb5 kb.lt
        have hx5 : w5.cell? ⟨g1, o1, none⟩ = some (.int .i64 x) := (hb5.cell (p := ⟨g1, o1, none⟩) (by show g1 < (w.alloc _).heap.size; simp; omega)).trans hx2
        have HGV : Hid (Gave w r en w5) := Lib.hid (by
          have hz : w.heap.size ≤ (w.alloc (.cells #[.int .i64 3, .int .i64 out, .int .i64 k, .int .i64 st, .int .i64 pd, .int .i64 fr, .bool fz] 43)).drew.heap.size := by show w.heap.size ≤ (w.alloc _).heap.size; simp
          cases r with
          | none => exact ⟨hq.1, HB0.out.drew.trans (hq.2.mono hz)⟩
          | some e => obtain ⟨g5, c5, h1, h2, h3⟩ := hq; exact ⟨g5, c5, h1, own_lower h2 hz, HB0.out.drew.trans (h3.mono hz)⟩)
        obtain ⟨v5, rfl⟩ : ∃ v5, en = .returned v5 := by cases r with
          | none => exact ⟨_, hq.1⟩
          | some e => obtain ⟨g5, c5, h1, h2, h3⟩ := hq; exact ⟨_, h1⟩
        clear hq
        refine hK9.out _ _ (⟨hx5, kb5.cell 0, kb5.cell 1, kb5.cell 2, kb5.cell 3, kb5.cell 4, kb5.cell 5, kb5.cell 6⟩) (fun hHeld9 => ?_)
        clear hK9 K9
        (try simp only [List.getElem_toArray, List.getElem_cons_zero, List.getElem_cons_succ, Act.put, List.setIfInBounds_toArray, List.set_cons_zero, List.set_cons_succ])
        refine' wpAnyH_take (i := 6) (v := _) rfl (by kernel_rfl) (by kernel_rfl) (by kernel_rfl) (fun _ _ _ h => h) (Or.inl ⟨by rfl, ?taq6⟩) (by assumption) ?tbq6
        case taq6 =>
          intro wS hSw
          (try dsimp only at hSw)
          go_simp
          (try (with_reducible rfl))
        (try simp only [List.getElem_toArray, List.getElem_cons_zero, List.getElem_cons_succ, Act.put, List.setIfInBounds_toArray, List.set_cons_zero, List.set_cons_succ])
        refine wpAnyH_done (by kernel_rfl) ?_ _
        go_wp2
        go_ret
        exact HGV.out
      · have t3 : (kd == 3) = false := by simpa using hd
        have T3 := Lib.hid hd
        clear hd
        by_cases hd : kd = 4
        · subst hd
          have HE : Hid (givesI ⟨4, out, k, st, pd, fr, fz⟩ all d = planesI d (d.headD 0) ⟨4, out, k, st, pd, fr, fz⟩) := Lib.hid rfl
          obtain ⟨x, hx⟩ : ∃ x, d[0]? = some x := ⟨d[0]'(by omega), List.getElem?_eq_getElem (by omega)⟩
          obtain ⟨g1, o1, rfl, hg1, hx1⟩ := cells_of HD.out hx
          have hx0 : d.headD 0 = x := by cases d with
            | nil => simp at hx
            | cons y d => simp at hx ⊢; exact hx
          rw [hx0] at HE
          have z0 : (0 : Int) < (d.length : Int) := by omega
          have hx2 : (w.alloc (.cells #[.int .i64 4, .int .i64 out, .int .i64 k, .int .i64 st, .int .i64 pd, .int .i64 fr, .bool fz] 43)).cell? ⟨g1, o1, none⟩ = some (.int .i64 x) := hx1
          clear hx hx0 hx1
          go_enter Try.func32, Try.ntmps32
          go_upto_region 10 with fail
          have kb := (Blk.fresh w 43 [.int .i64 4, .int .i64 out, .int .i64 k, .int .i64 st, .int .i64 pd, .int .i64 fr, .bool fz]).drew
          refine wp_region_held_drew (S := (fun w' => w'.cell? ⟨g1, o1, none⟩ = some (.int .i64 x) ∧ w'.cell? ⟨w.heap.size, 0, none⟩ = some (.int .i64 4) ∧ w'.cell? ⟨w.heap.size, 1, none⟩ = some (.int .i64 out) ∧ w'.cell? ⟨w.heap.size, 2, none⟩ = some (.int .i64 k) ∧ w'.cell? ⟨w.heap.size, 3, none⟩ = some (.int .i64 st) ∧ w'.cell? ⟨w.heap.size, 4, none⟩ = some (.int .i64 pd) ∧ w'.cell? ⟨w.heap.size, 5, none⟩ = some (.int .i64 fr) ∧ w'.cell? ⟨w.heap.size, 6, none⟩ = some (.bool fz))) (by kernel_rfl) (⟨hx2, kb.cell 0, kb.cell 1, kb.cell 2, kb.cell 3, kb.cell 4, kb.cell 5, kb.cell 6⟩) (fun hHeld => ?_)
          refine' wpAnyH_take (i := 0) (v := _) rfl (by kernel_rfl) (by kernel_rfl) (by kernel_rfl) (fun _ _ _ h => h) (Or.inl ⟨by rfl, ?taq7⟩) (by assumption) ?tbq7
          case taq7 =>
            intro wS hSw
            (try dsimp only at hSw)
            go_simp
            (try (with_reducible rfl))
          (try simp only [List.getElem_toArray, List.getElem_cons_zero, List.getElem_cons_succ, Act.put, List.setIfInBounds_toArray, List.set_cons_zero, List.set_cons_succ])
          refine' wpAnyH_take (i := 1) (v := _) rfl (by kernel_rfl) (by kernel_rfl) (by kernel_rfl) (fun _ _ _ h => h) (Or.inl ⟨by rfl, ?taq8⟩) (by assumption) ?tbq8
          case taq8 =>
            intro wS hSw
            (try dsimp only at hSw)
            go_simp
            (try (with_reducible rfl))
          (try simp only [List.getElem_toArray, List.getElem_cons_zero, List.getElem_cons_succ, Act.put, List.setIfInBounds_toArray, List.set_cons_zero, List.set_cons_succ])
          refine' wpAnyH_take (i := 2) (v := _) rfl (by kernel_rfl) (by kernel_rfl) (by kernel_rfl) (fun _ _ _ h => h) (Or.inl ⟨by rfl, ?taq9⟩) (by assumption) ?tbq9
          case taq9 =>
            intro wS hSw
            (try dsimp only at hSw)
            go_simp
            (try (with_reducible rfl))
          (try simp only [List.getElem_toArray, List.getElem_cons_zero, List.getElem_cons_succ, Act.put, List.setIfInBounds_toArray, List.set_cons_zero, List.set_cons_succ])
          refine' wpAnyH_take (i := 3) (v := _) rfl (by kernel_rfl) (by kernel_rfl) (by kernel_rfl) (fun _ _ _ h => h) (Or.inl ⟨by rfl, ?taq10⟩) (by assumption) ?tbq10
          case taq10 =>
            intro wS hSw
            (try dsimp only at hSw)
            go_simp
            (try (with_reducible rfl))
          (try simp only [List.getElem_toArray, List.getElem_cons_zero, List.getElem_cons_succ, Act.put, List.setIfInBounds_toArray, List.set_cons_zero, List.set_cons_succ])
          refine' wpAnyH_take (i := 4) (v := _) rfl (by kernel_rfl) (by kernel_rfl) (by kernel_rfl) (fun _ _ _ h => h) (Or.inl ⟨by rfl, ?taq11⟩) (by assumption) ?tbq11
          case taq11 =>
            intro wS hSw
            (try dsimp only at hSw)
            go_simp
            (try (with_reducible rfl))
          (try simp only [List.getElem_toArray, List.getElem_cons_zero, List.getElem_cons_succ, Act.put, List.setIfInBounds_toArray, List.set_cons_zero, List.set_cons_succ])
          refine wpAnyH_ready (rs := [5]) (by kernel_rfl) (by simp) ?_
          refine AllReadyH.cons rfl (fun K9 hK9 => ?_) AllReadyH.nil
          (try simp only [List.getElem_toArray, List.getElem_cons_zero, List.getElem_cons_succ])
          go_simp
          refine (planes_any d _ x 4 out k st pd fr fz (w.alloc (.cells #[.int .i64 4, .int .i64 out, .int .i64 k, .int .i64 st, .int .i64 pd, .int .i64 fr, .bool fz] 43)).drew B (by exact HBA.out) (by exact HD.out.drew) HOK.out r (by rw [← HE.out]; exact HR.out)).mono ?_
          rintro en w5 hq
          have hb5 : Below (w.alloc (.cells #[.int .i64 4, .int .i64 out, .int .i64 k, .int .i64 st, .int .i64 pd, .int .i64 fr, .bool fz] 43)).drew.heap.size (w.alloc (.cells #[.int .i64 4, .int .i64 out, .int .i64 k, .int .i64 st, .int .i64 pd, .int .i64 fr, .bool fz] 43)).drew w5 := by cases r with
            | none => exact hq.2
            | some e => obtain ⟨g5, c5, h1, h2, h3⟩ := hq; exact h3
          have kb5 := kb.below hb5 kb.lt
          have hx5 : w5.cell? ⟨g1, o1, none⟩ = some (.int .i64 x) := (hb5.cell (p := ⟨g1, o1, none⟩) (by show g1 < (w.alloc _).heap.size; simp; omega)).trans hx2
          have HGV : Hid (Gave w r en w5) := Lib.hid (by
            have hz : w.heap.size ≤ (w.alloc (.cells #[.int .i64 4, .int .i64 out, .int .i64 k, .int .i64 st, .int .i64 pd, .int .i64 fr, .bool fz] 43)).drew.heap.size := by show w.heap.size ≤ (w.alloc _).heap.size; simp
            cases r with
            | none => exact ⟨hq.1, HB0.out.drew.trans (hq.2.mono hz)⟩
            | some e => obtain ⟨g5, c5, h1, h2, h3⟩ := hq; exact ⟨g5, c5, h1, own_lower h2 hz, HB0.out.drew.trans (h3.mono hz)⟩)
          obtain ⟨v5, rfl⟩ : ∃ v5, en = .returned v5 := by cases r with
            | none => exact ⟨_, hq.1⟩
            | some e => obtain ⟨g5, c5, h1, h2, h3⟩ := hq; exact ⟨_, h1⟩
          clear hq
          refine hK9.out _ _ (⟨hx5, kb5.cell 0, kb5.cell 1, kb5.cell 2, kb5.cell 3, kb5.cell 4, kb5.cell 5, kb5.cell 6⟩) (fun hHeld9 => ?_)
          clear hK9 K9
          (try simp only [List.getElem_toArray, List.getElem_cons_zero, List.getElem_cons_succ, Act.put, List.setIfInBounds_toArray, List.set_cons_zero, List.set_cons_succ])
          refine' wpAnyH_take (i := 6) (v := _) rfl (by kernel_rfl) (by kernel_rfl) (by kernel_rfl) (fun _ _ _ h => h) (Or.inl ⟨by rfl, ?taq12⟩) (by assumption) ?tbq12
          case taq12 =>
            intro wS hSw
            (try dsimp only at hSw)
            go_simp
            (try (with_reducible rfl))
          (try simp only [List.getElem_toArray, List.getElem_cons_zero, List.getElem_cons_succ, Act.put, List.setIfInBounds_toArray, List.set_cons_zero, List.set_cons_succ])
          refine wpAnyH_done (by kernel_rfl) ?_ _
          go_wp2
          go_ret
          exact HGV.out
        · have t4 : (kd == 4) = false := by simpa using hd
          have T4 := Lib.hid hd
          clear hd
          by_cases hd : kd = 5
          · subst hd
            have HE : Hid (givesI ⟨5, out, k, st, pd, fr, fz⟩ all d = some d) := Lib.hid rfl
            go_enter Try.func32, Try.ntmps32
            go_wp2_with fail
            refine (clone_int _ B _ d (HD.out) (HBA.out) (by omega)).mono ?_
            rintro en w5 ⟨A5, c5, rfl, hown5, hb5⟩
            obtain ⟨g5, rfl⟩ := own_some hown5 hpos.1
            have HO5 := Lib.hid hown5
            have HB5 := Lib.hid hb5
            clear hown5 hb5
            go_wp2
            go_ret
            rw [← HR.out, HE.out]
            exact ⟨g5, c5, rfl, own_lower HO5.out (by have := HSZ.out; omega), (HB0.out).trans (HB5.out.mono (by have := HSZ.out; omega))⟩
          · have t5 : (kd == 5) = false := by simpa using hd
            have T5 := Lib.hid hd
            clear hd
            by_cases hd : kd = 6
            · subst hd
              have HE : Hid (givesI ⟨6, out, k, st, pd, fr, fz⟩ all d = some [prodI d]) := Lib.hid rfl
              go_enter Try.func32, Try.ntmps32
              go_wp2_with (go_at_call 31; refine (cprod_any d _ _ B HD.out HG.out).mono ?_; rintro en w5 ⟨rfl, rfl⟩)
              go_ret
              rw [← HR.out, HE.out]
              exact lit_gave (w := w) (cs := [.int .i64 (prodI d)]) (e := [prodI d]) (n := 1) rfl rfl (by omega) HB0.out HSZ.out
            · have t6 : (kd == 6) = false := by simpa using hd
              have T6 := Lib.hid hd
              clear hd
              by_cases hd : kd = 7
              · subst hd
                have hfr : 0 ≤ fr ∧ fr ≤ (m : Int) - 1 := by
                  have := HM.out
                  unfold mayL at this
                  simp only [Bool.and_eq_true] at this
                  exact inI_of this.1
                obtain ⟨f, rfl⟩ := Int.eq_ofNat_of_zero_le hfr.1
                obtain ⟨x, hx⟩ : ∃ x, all[f]? = some x := ⟨all[f]'(by have := HAL.out; omega), List.getElem?_eq_getElem (by have := HAL.out; omega)⟩
                obtain ⟨g1, o1, c1, A1, c1', e1, hg1, hx1, hrx⟩ := (HH.out.below (HB0.out.mono hB)).at_ hx
                injection e1 with e1 _ _
                injection e1 with e1
                injection e1 with e1 e2
                subst e1 e2
                have hgd : all.getD f [] = x := by rw [List.getD_eq_getElem?_getD, hx]; rfl
                have i1 : (0 : Int) ≤ (f : Int) := by omega
                have i2 : (f : Int) < (m : Int) + 1 := by omega
                have HX := Lib.hid hrx
                by_cases hxd : x = d
                · have HE : Hid (givesI ⟨7, out, k, st, pd, f, fz⟩ all d = some d) := Lib.hid (by unfold givesI; simp [hx, hxd])
                  have HQ := Lib.hid (equal_int_any x d _ _ _ B B HX.out HD.out)
                  rw [show (x == d) = true by simpa using hxd] at HQ
                  clear hxd hx hgd hrx hfr
                  go_enter Try.func32, Try.ntmps32
                  go_wp2_with fail
                  refine HQ.out.mono ?_
                  rintro en w4 ⟨rfl, n4, rfl⟩
                  go_wp2_with fail
                  refine (clone_int _ B _ d (HD.out.drewN n4) (HBA.out) (by omega)).mono ?_
                  rintro en w5 ⟨A5, c5, rfl, hown5, hb5⟩
                  obtain ⟨g5, rfl⟩ := own_some hown5 hpos.1
                  have HO5 := Lib.hid hown5
                  have HB5 := Lib.hid hb5
                  clear hown5 hb5
                  go_wp2
                  go_ret
                  rw [← HR.out, HE.out]
                  exact ⟨g5, c5, rfl, own_lower HO5.out (by show w.heap.size ≤ (w.alloc _).heap.size; simp), ((net_drewN HB0.out n4)).trans (HB5.out.mono (by show w.heap.size ≤ (w.alloc _).heap.size; simp))⟩
                · have HE : Hid (givesI ⟨7, out, k, st, pd, f, fz⟩ all d = none) := Lib.hid (by unfold givesI; simp [hx, hxd])
                  have HQ := Lib.hid (equal_int_any x d _ _ _ B B HX.out HD.out)
                  rw [show (x == d) = false by simpa using hxd] at HQ
                  clear hxd hx hgd hrx hfr
                  go_enter Try.func32, Try.ntmps32
                  go_wp2_with fail
                  refine HQ.out.mono ?_
                  rintro en w4 ⟨rfl, n4, rfl⟩
                  go_wp2
                  go_ret
                  rw [← HR.out, HE.out]
                  exact ⟨rfl, net_drewN HB0.out n4⟩
              · have t7 : (kd == 7) = false := by simpa using hd
                have T7 := Lib.hid hd
                clear hd
                exfalso
                have := mayL_kind HM.out
                have h1 := T1.out
                have h2 := T2.out
                have h3 := T3.out
                have h4 := T4.out
                have h5 := T5.out
                have h6 := T6.out
                have h7 := T7.out
                simp only at this
                omega
end Go.Proofs.Ytkileiikffomlaa
