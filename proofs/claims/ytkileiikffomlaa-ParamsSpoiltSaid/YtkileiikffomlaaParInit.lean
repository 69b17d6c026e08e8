/- Contract of params.Init. -/
import Derived.Test.YtkileiikffomlaaParMade
import Derived.Test.YtkileiikffomlaaParDims
namespace Go.Proofs.Ytkileiikffomlaa
open Go.RowKit
set_option linter.unusedVariables false
set_option linter.unusedSimpArgs false

/-- what a layer has at first; none: it may not be -/
def stepC (ls : List LayV) (all : List (List Int)) (seed : Int) (k : Nat) : Option ParC :=
  let q := dimsI (ls.getD k ⟨0, 0, 0, 0, 0, 0, false⟩) (all.getD k [])
  if q.1 = [] then some zeroC else if 0 < sizeI q.1 then some (madeC q.1 q.2 seed ((k : Int) + 1)) else none
theorem stepC_at {ls : List LayV} {all : List (List Int)} {seed : Int} {k : Nat} {l : LayV} {d : List Int} (hl : ls[k]? = some l) (hd : all[k]? = some d) :
    stepC ls all seed k = if (dimsI l d).1 = [] then some zeroC else if 0 < sizeI (dimsI l d).1 then some (madeC (dimsI l d).1 (dimsI l d).2 seed ((k : Int) + 1)) else none := by
  unfold stepC
  simp only [List.getD_eq_getElem?_getD, hl, hd, Option.getD_some]
def initE (a b c : Int) (ls : List LayV) (seed : Int) : Int :=
  if (shapesM a b c ls).2.2 ≠ 0 then (shapesM a b c ls).2.2 else if (List.range ls.length).any (fun k => (stepC ls (shapesM a b c ls).1 seed k).isNone) then 1 else 0
def initL (a b c : Int) (ls : List LayV) (seed : Int) : List ParC := (List.range ls.length).map (fun k => (stepC ls (shapesM a b c ls).1 seed k).getD zeroC)
def InitOf (w : World) (a b c : Int) (ls : List LayV) (seed : Int) (en : Ending) (w' : World) : Prop :=
  Below w.heap.size w w' ∧ ((initE a b c ls seed ≠ 0 ∧ en = .returned (.tuple #[.slice none 0 0, .int .i64 (initE a b c ls seed)])) ∨
    (initE a b c ls seed = 0 ∧ ∃ (ps : List ParV) (A : Option Addr) (c' : Nat), en = .returned (.tuple #[.slice A ps.length c', .int .i64 0]) ∧ ps.map (·.c) = initL a b c ls seed ∧ ParsOf w' w'.heap.size (.slice A ps.length c') ps ∧ ps.length = ls.length ∧ ls.length ≤ 12))
theorem any_none {ls : List LayV} {all : List (List Int)} {seed : Int} {k n : Nat} (hk : k < n) (h : stepC ls all seed k = none) : (List.range n).any (fun k => (stepC ls all seed k).isNone) = true := by
  rw [List.any_eq_true]
  exact ⟨k, List.mem_range.2 hk, by rw [h]; rfl⟩
theorem any_some {ls : List LayV} {all : List (List Int)} {seed : Int} {ps : List ParV} (h : ∀ (j : Nat) p, ps[j]? = some p → stepC ls all seed j = some p.c) : (List.range ps.length).any (fun k => (stepC ls all seed k).isNone) = false := by
  rw [List.any_eq_false]
  intro k hk
  have hk := List.mem_range.1 hk
  rw [h k ps[k] (List.getElem?_eq_getElem hk)]
  simp
theorem map_steps {ls : List LayV} {all : List (List Int)} {seed : Int} {ps : List ParV} (h : ∀ (j : Nat) p, ps[j]? = some p → stepC ls all seed j = some p.c) : ps.map (·.c) = (List.range ps.length).map (fun k => (stepC ls all seed k).getD zeroC) := by
  apply List.ext_getElem
  · simp
  · intro i h1 h2
    simp only [List.length_map] at h1
    simp only [List.getElem_map, List.getElem_range]
    rw [h i ps[i] (List.getElem?_eq_getElem h1)]
    rfl
theorem steps_next {ls : List LayV} {all : List (List Int)} {seed : Int} {ps : List ParV} {p : ParV} (h : ∀ (j : Nat) p, ps[j]? = some p → stepC ls all seed j = some p.c) (hp : stepC ls all seed ps.length = some p.c) : ∀ (j : Nat) q, (ps ++ [p])[j]? = some q → stepC ls all seed j = some q.c := by
  intro j q hq
  rcases Nat.lt_trichotomy j ps.length with hj | hj | hj
  · rw [List.getElem?_append_left hj] at hq
    exact h j q hq
  · subst hj
    rw [List.getElem?_append_right (Nat.le_refl _), Nat.sub_self] at hq
    simp at hq
    subst hq
    exact hp
  · rw [List.getElem?_eq_none (by simp; omega)] at hq
    cases hq
theorem dims_small {l : LayV} {d : List Int} (h1 : (dimsI l d).1 ≠ []) (h : 0 < sizeI (dimsI l d).1) : 1 ≤ (dimsI l d).2 ∧ (dimsI l d).2 ≤ 4096 := by
  unfold dimsI at h h1 ⊢
  split at h
  · rename_i h2
    rw [if_pos h2]
    simp only at h ⊢
    unfold sizeI at h
    rw [if_neg (by simp)] at h
    unfold sizeGo at h
    split at h
    · omega
    · omega
  · rename_i h2
    rw [if_neg h2] at h1 ⊢
    split at h
    · rename_i h3
      rw [if_pos h3]
      simp only at h ⊢
      unfold sizeI at h
      rw [if_neg (by simp)] at h
      unfold sizeGo at h
      split at h
      · omega
      · omega
    · rename_i h3
      rw [if_neg h3] at h1
      exact absurd rfl h1
theorem dims_in {l : LayV} {d : List Int} (hl : l.ok) (hd : GoodD d) : ∀ x ∈ (dimsI l d).1, -9223372036854775808 ≤ x ∧ x ≤ 9223372036854775807 := by
  obtain ⟨y0, y1, y2, y3, y4, y5⟩ := hl
  simp only [inW] at y0 y1 y2 y3 y4 y5
  have hx : -9223372036854775808 ≤ d.headD 0 ∧ d.headD 0 ≤ 9223372036854775807 := by
    cases d with
    | nil => simp
    | cons x d => have := hd.bd x (by simp); show -9223372036854775808 ≤ x ∧ x ≤ 9223372036854775807; exact ⟨by omega, by omega⟩
  intro x hx2
  unfold dimsI at hx2
  split at hx2
  · simp only [List.mem_cons, List.not_mem_nil, or_false] at hx2; rcases hx2 with rfl | rfl <;> omega
  · split at hx2
    · simp only [List.mem_cons, List.not_mem_nil, or_false] at hx2; rcases hx2 with rfl | rfl | rfl | rfl <;> omega
    · simp at hx2
set_option maxHeartbeats 3200000 in
set_option maxRecDepth 100000 in
theorem init_any (a b c : Int) (v : Value) (ls : List LayV) (seed : Int) (w : World) (B : Nat) (hB : B ≤ w.heap.size) (h : LaysOf w B v ls) (s0 : 0 ≤ seed) (s1 : seed < 18446744073709551616) :
    Calls Try.prog 25 #[.agg #[.int .i64 a, .int .i64 b, .int .i64 c, v], .int .u64 seed] w (InitOf w a b c ls seed) := by
  obtain ⟨A, cc, rfl⟩ := h.form
  have hlen := h.len
  have HL := Lib.hid h
  have hb0 := net_one w (.cells #[.int .i64 a, .int .i64 b, .int .i64 c, .slice A ls.length cc] 25)
  have HB0 := Lib.hid hb0
  have hsz : w.heap.size < (w.alloc (.cells #[.int .i64 a, .int .i64 b, .int .i64 c, .slice A ls.length cc] 25)).heap.size := by simp
  have KB := Lib.hid (Blk.fresh w 25 [.int .i64 a, .int .i64 b, .int .i64 c, .slice A ls.length cc])
  have HSH : Hid (∀ res, shapesM a b c ls = res → Calls Try.prog 12 #[.agg #[.int .i64 a, .int .i64 b, .int .i64 c, .slice A ls.length cc]] (w.alloc (.cells #[.int .i64 a, .int .i64 b, .int .i64 c, .slice A ls.length cc] 25)) (Shaped (w.alloc (.cells #[.int .i64 a, .int .i64 b, .int .i64 c, .slice A ls.length cc] 25)) res)) :=
    Lib.hid (fun res hres => shapes_any a b c _ ls _ B (by omega) (HL.out.below (HB0.out.mono hB)) res hres)
  clear h hb0
  rcases shapesM_cases a b c ls with ⟨hs, hm⟩ | ⟨n, hs, hn1, hn2, hm⟩ | ⟨all, hs, hok⟩
  · have HC := Lib.hid (HSH.out _ hs)
    have HW : Hid (initE a b c ls seed = 1) := Lib.hid (by unfold initE; rw [hs]; rfl)
    clear hs hm
    go_enter Try.func25, Try.ntmps25
    go_wp2_with fail
    refine HC.out.mono ?_
    rintro en w2 ⟨A2, c2, rfl, hrows, hb2⟩
    have HB2 := Lib.hid (HB0.out.trans (hb2.mono (by omega)))
    clear hb2 hrows
    dsimp only
    go_wp2
    refine bodyPost_ret (v := .tuple #[.slice none 0 0, .int .i64 1]) (by simp [results, Try.results25, go_sem]) rfl ?_
    exact ⟨HB2.out, .inl ⟨by rw [HW.out]; omega, by rw [HW.out]⟩⟩
  · have HC := Lib.hid (HSH.out _ hs)
    have HW : Hid (initE a b c ls seed = 2) := Lib.hid (by unfold initE; rw [hs]; rfl)
    clear hs hm
    go_enter Try.func25, Try.ntmps25
    go_wp2_with fail
    refine HC.out.mono ?_
    rintro en w2 ⟨A2, c2, rfl, hrows, hb2⟩
    have HB2 := Lib.hid (HB0.out.trans (hb2.mono (by omega)))
    clear hb2 hrows
    dsimp only
    go_wp2
    refine bodyPost_ret (v := .tuple #[.slice none 0 0, .int .i64 2]) (by simp [results, Try.results25, go_sem]) rfl ?_
    exact ⟨HB2.out, .inl ⟨by rw [HW.out]; omega, by rw [HW.out]⟩⟩
  · have HC := Lib.hid (HSH.out _ hs)
    have HML := Lib.hid hok.len
    have HOK := Lib.hid hok
    have h12 := (mayM_parts hok.may).2.1.2
    have HE : Hid (initE a b c ls seed = if (List.range ls.length).any (fun k => (stepC ls all seed k).isNone) then 1 else 0) := Lib.hid (by unfold initE; rw [hs]; rfl)
    have HIL : Hid (initL a b c ls seed = (List.range ls.length).map (fun k => (stepC ls all seed k).getD zeroC)) := Lib.hid (by unfold initL; rw [hs])
    clear hs hok
    go_enter Try.func25, Try.ntmps25
    go_wp2_with fail
    refine HC.out.mono ?_
    rintro en w2 ⟨A2, c2, rfl, hrows, hb2⟩
    have HB2 := Lib.hid (HB0.out.trans (hb2.mono (by omega)))
    have K2 := Lib.hid (KB.out.below hb2 hsz)
    have HRW := Lib.hid hrows
    have hw2 := K2.out.lt
    have k3 := K2.out.cell 3
    simp only [List.getElem?_cons_zero, List.getElem?_cons_succ] at k3
    clear hb2 hrows HC HB0 KB
    dsimp only
    go_wp2_with fail
    go_loopw [9, 27] (fun u i wr => ∃ (k : Nat) (ps : List ParV), k ≤ ls.length ∧ i = .int .i64 k ∧ Hid (ps.length = k) ∧ Hid (∀ (j : Nat) p, ps[j]? = some p → stepC ls all seed j = some p.c) ∧ Hid (ParI w2 u ps wr)) (fun _ i _ => ls.length - (intOf i).toNat)
    case atStart => exact ⟨0, [], by omega, rfl, Lib.hid rfl, Lib.hid (by simp), Lib.hid (ParI.start (Below.refl _ _))⟩
    case round =>
      obtain ⟨k, ps, hk, rfl, HPL, HST, HPI⟩ := hrel
      have HBR := Lib.hid HPI.out.bel
      by_cases hlt : k < ls.length
      · obtain ⟨A9, c9, rfl⟩ := HPI.out.form
        have hml := HML.out
        obtain ⟨d, hd⟩ : ∃ d, all[k]? = some d := ⟨all[k]'(by omega), List.getElem?_eq_getElem (by omega)⟩
        have hgd := Lib.hid (HOK.out.good k d hd)
        have hrr := HRW.out.below HBR.out
        obtain ⟨gr, og, c3, A3, c4, e1, hgr, hcl1, hrl⟩ := hrr.at_ hd
        injection e1 with e1 _ e3
        subst e1 e3
        have HBW := Lib.hid (HB2.out.trans (HBR.out.mono HB2.out.size))
        have hL2 := HL.out.below (HBW.out.mono hB)
        obtain ⟨gl, ol, cl, l, e2, hll, hlok, hgl, q0, q1, q2, q3, q4, q5, q6⟩ := hL2.at_ hlt
        injection e2 with e2 _ e4
        subst e2 e4
        have HSQ := Lib.hid (stepC_at (seed := seed) hll hd)
        have HDI := Lib.hid (dims_in hlok hgd.out)
        have HDS : Hid ((dimsI l d).1 ≠ [] → 0 < sizeI (dimsI l d).1 → 1 ≤ (dimsI l d).2 ∧ (dimsI l d).2 ≤ 4096) := Lib.hid dims_small
        obtain ⟨kd, out, kk, st, pd, fr, fz⟩ := l
        dsimp only at q0 q1 q2 q3 q4 q5 q6
        have hsr := HBR.out.size
        have hgr2 : gr < wr.heap.size := by omega
        have HRL := Lib.hid hrl
        rw [hml]
        have i0 : 0 ≤ (k : Int) := by omega
        have i1 : (k : Int) < (ls.length : Int) := by omega
        have i2 : (k : Int) < (ls.length : Int) + 1 := by omega
        have hcr : (wr.alloc (.cells #[.int .i64 kd, .int .i64 out, .int .i64 kk, .int .i64 st, .int .i64 pd, .int .i64 fr, .bool fz] 43)).cell? ⟨gr, og + k, none⟩ = some (.slice A3 d.length c4) := (((Below.refl wr.heap.size wr).alloc (Nat.le_refl _) _).cell (p := ⟨gr, og + k, none⟩) hgr2).trans hcl1
        have HKL := Lib.hid (Blk.fresh wr 43 [.int .i64 kd, .int .i64 out, .int .i64 kk, .int .i64 st, .int .i64 pd, .int .i64 fr, .bool fz])
        have j0 := HKL.out.cell 0
        have j1 := HKL.out.cell 1
        have j2 := HKL.out.cell 2
        have j3 := HKL.out.cell 3
        have j4 := HKL.out.cell 4
        have j5 := HKL.out.cell 5
        have j6 := HKL.out.cell 6
        simp only [List.getElem?_cons_zero, List.getElem?_cons_succ] at j0 j1 j2 j3 j4 j5 j6
        obtain ⟨q, hq⟩ : ∃ q, dimsI ⟨kd, out, kk, st, pd, fr, fz⟩ d = q := ⟨_, rfl⟩
        rw [hq] at HSQ HDI HDS
        obtain ⟨qd, qn⟩ := q
        have hb1 := (Below.refl wr.heap.size wr).alloc (Nat.le_refl _) (.cells #[.int .i64 kd, .int .i64 out, .int .i64 kk, .int .i64 st, .int .i64 pd, .int .i64 fr, .bool fz] 43)
        have HCO := Lib.hid (pof_any kd out kk st pd fr fz d _ (wr.alloc (.cells #[.int .i64 kd, .int .i64 out, .int .i64 kk, .int .i64 st, .int .i64 pd, .int .i64 fr, .bool fz] 43)).drew w2.heap.size (by show w2.heap.size ≤ (wr.alloc _).heap.size; simp; omega) (hrl.below (hb1.mono hsr)).drew hgd.out (qd, qn) hq)
        have HB1 := Lib.hid hb1
        have hs1 : (wr.alloc (.cells #[.int .i64 kd, .int .i64 out, .int .i64 kk, .int .i64 st, .int .i64 pd, .int .i64 fr, .bool fz] 43)).heap.size = wr.heap.size + 1 := by simp
        clear hml hd hrr hL2 hll hlok hq hrl hb1 hcl1
        go_wp2_with fail
        generalize (wr.alloc (.cells #[.int .i64 kd, .int .i64 out, .int .i64 kk, .int .i64 st, .int .i64 pd, .int .i64 fr, .bool fz] 43)) = w3 at hcr j0 j1 j2 j3 j4 j5 j6 HCO HB1 HKL hs1 ⊢
        refine wp_region_held_drew (S := ((fun w' => w'.cell? ⟨gr, og + k, none⟩ = some (.slice A3 d.length c4) ∧ w'.cell? ⟨wr.heap.size, 0, none⟩ = some (.int .i64 kd) ∧ w'.cell? ⟨wr.heap.size, 1, none⟩ = some (.int .i64 out) ∧ w'.cell? ⟨wr.heap.size, 2, none⟩ = some (.int .i64 kk) ∧ w'.cell? ⟨wr.heap.size, 3, none⟩ = some (.int .i64 st) ∧ w'.cell? ⟨wr.heap.size, 4, none⟩ = some (.int .i64 pd) ∧ w'.cell? ⟨wr.heap.size, 5, none⟩ = some (.int .i64 fr) ∧ w'.cell? ⟨wr.heap.size, 6, none⟩ = some (.bool fz)))) (by kernel_rfl) (⟨hcr, j0, j1, j2, j3, j4, j5, j6⟩) (fun hHeld => ?_)
        refine' wpAnyH_take (i := 0) (v := _) rfl (by kernel_rfl) (by kernel_rfl) (by kernel_rfl) (fun _ _ _ h => h) (Or.inl ⟨by rfl, ?taq34⟩) (by assumption) ?tbq34
        case taq34 =>
          intro wS hSw
          (try dsimp only at hSw)
          go_simp
          (try (with_reducible rfl))
        (try simp only [List.getElem_toArray, List.getElem_cons_zero, List.getElem_cons_succ, Act.put, List.setIfInBounds_toArray, List.set_cons_zero, List.set_cons_succ])
        refine' wpAnyH_take (i := 1) (v := _) rfl (by kernel_rfl) (by kernel_rfl) (by kernel_rfl) (fun _ _ _ h => h) (Or.inl ⟨by rfl, ?taq35⟩) (by assumption) ?tbq35
        case taq35 =>
          intro wS hSw
          (try dsimp only at hSw)
          go_simp
          (try (with_reducible rfl))
        (try simp only [List.getElem_toArray, List.getElem_cons_zero, List.getElem_cons_succ, Act.put, List.setIfInBounds_toArray, List.set_cons_zero, List.set_cons_succ])
        refine' wpAnyH_take (i := 2) (v := _) rfl (by kernel_rfl) (by kernel_rfl) (by kernel_rfl) (fun _ _ _ h => h) (Or.inl ⟨by rfl, ?taq36⟩) (by assumption) ?tbq36
        case taq36 =>
          intro wS hSw
          (try dsimp only at hSw)
          go_simp
          (try (with_reducible rfl))
        (try simp only [List.getElem_toArray, List.getElem_cons_zero, List.getElem_cons_succ, Act.put, List.setIfInBounds_toArray, List.set_cons_zero, List.set_cons_succ])
        refine' wpAnyH_take (i := 3) (v := _) rfl (by kernel_rfl) (by kernel_rfl) (by kernel_rfl) (fun _ _ _ h => h) (Or.inl ⟨by rfl, ?taq37⟩) (by assumption) ?tbq37
        case taq37 =>
          intro wS hSw
          (try dsimp only at hSw)
          go_simp
          (try (with_reducible rfl))
        (try simp only [List.getElem_toArray, List.getElem_cons_zero, List.getElem_cons_succ, Act.put, List.setIfInBounds_toArray, List.set_cons_zero, List.set_cons_succ])
        refine' wpAnyH_take (i := 4) (v := _) rfl (by kernel_rfl) (by kernel_rfl) (by kernel_rfl) (fun _ _ _ h => h) (Or.inl ⟨by rfl, ?taq38⟩) (by assumption) ?tbq38
        case taq38 =>
          intro wS hSw
          (try dsimp only at hSw)
          go_simp
          (try (with_reducible rfl))
        (try simp only [List.getElem_toArray, List.getElem_cons_zero, List.getElem_cons_succ, Act.put, List.setIfInBounds_toArray, List.set_cons_zero, List.set_cons_succ])
        refine wpAnyH_ready (rs := [5]) (by kernel_rfl) (by simp) ?_
        refine AllReadyH.cons rfl (fun K9 hK9 => ?_) AllReadyH.nil
        (try simp only [List.getElem_toArray, List.getElem_cons_zero, List.getElem_cons_succ])
        go_simp
        refine HCO.out.mono ?_
        rintro en w5 ⟨A5, c5, rfl, hr5, hb5, hnil⟩
        have HB5 : Hid (Below w3.heap.size w3 w5) := Lib.hid ((Below.refl w3.heap.size w3).drew.trans hb5)
        have hcc := fun (p : Addr) (hp : p.block < w3.heap.size) => HB5.out.cell (p := p) hp
        have HR5 := Lib.hid hr5
        have HNIL := Lib.hid hnil
        have hcr' := (hcc ⟨gr, og + k, none⟩ (by show gr < w3.heap.size; omega)).trans hcr
        have hlb : wr.heap.size < w3.heap.size := by omega
        have j0' := (hcc ⟨wr.heap.size, 0, none⟩ hlb).trans j0
        have j1' := (hcc ⟨wr.heap.size, 1, none⟩ hlb).trans j1
        have j2' := (hcc ⟨wr.heap.size, 2, none⟩ hlb).trans j2
        have j3' := (hcc ⟨wr.heap.size, 3, none⟩ hlb).trans j3
        have j4' := (hcc ⟨wr.heap.size, 4, none⟩ hlb).trans j4
        have j5' := (hcc ⟨wr.heap.size, 5, none⟩ hlb).trans j5
        have j6' := (hcc ⟨wr.heap.size, 6, none⟩ hlb).trans j6
        clear hb5 hcc hr5 hnil HCO hcr j0 j1 j2 j3 j4 j5 j6
        dsimp only
        refine hK9.out _ _ (⟨hcr', j0', j1', j2', j3', j4', j5', j6'⟩) (fun hHeld9 => ?_)
        clear hK9 K9
        (try simp only [List.getElem_toArray, List.getElem_cons_zero, List.getElem_cons_succ, Act.put, List.setIfInBounds_toArray, List.set_cons_zero, List.set_cons_succ])
        refine' wpAnyH_take (i := 6) (v := _) rfl (by kernel_rfl) (by kernel_rfl) (by kernel_rfl) (fun _ _ _ h => h) (Or.inl ⟨by rfl, ?taq39⟩) (by assumption) ?tbq39
        case taq39 =>
          intro wS hSw
          (try dsimp only at hSw)
          go_simp
          (try (with_reducible rfl))
        (try simp only [List.getElem_toArray, List.getElem_cons_zero, List.getElem_cons_succ, Act.put, List.setIfInBounds_toArray, List.set_cons_zero, List.set_cons_succ])
        refine' wpAnyH_take (i := 7) (v := _) rfl (by kernel_rfl) (by kernel_rfl) (by kernel_rfl) (fun _ _ _ h => h) (Or.inl ⟨by rfl, ?taq40⟩) (by assumption) ?tbq40
        case taq40 =>
          intro wS hSw
          (try dsimp only at hSw)
          go_simp
          (try (with_reducible rfl))
        (try simp only [List.getElem_toArray, List.getElem_cons_zero, List.getElem_cons_succ, Act.put, List.setIfInBounds_toArray, List.set_cons_zero, List.set_cons_succ])
        refine' wpAnyH_take (i := 8) (v := _) rfl (by kernel_rfl) (by kernel_rfl) (by kernel_rfl) (fun _ _ _ h => h) (Or.inl ⟨by rfl, ?taq41⟩) (by assumption) ?tbq41
        case taq41 =>
          intro wS hSw
          (try dsimp only at hSw)
          go_simp
          (try (with_reducible rfl))
        (try simp only [List.getElem_toArray, List.getElem_cons_zero, List.getElem_cons_succ, Act.put, List.setIfInBounds_toArray, List.set_cons_zero, List.set_cons_succ])
        refine' wpAnyH_take (i := 9) (v := _) rfl (by kernel_rfl) (by kernel_rfl) (by kernel_rfl) (fun _ _ _ h => h) (Or.inl ⟨by rfl, ?taq42⟩) (by assumption) ?tbq42
        case taq42 =>
          intro wS hSw
          (try dsimp only at hSw)
          go_simp
          (try (with_reducible rfl))
        (try simp only [List.getElem_toArray, List.getElem_cons_zero, List.getElem_cons_succ, Act.put, List.setIfInBounds_toArray, List.set_cons_zero, List.set_cons_succ])
        refine' wpAnyH_take (i := 10) (v := _) rfl (by kernel_rfl) (by kernel_rfl) (by kernel_rfl) (fun _ _ _ h => h) (Or.inl ⟨by rfl, ?taq43⟩) (by assumption) ?tbq43
        case taq43 =>
          intro wS hSw
          (try dsimp only at hSw)
          go_simp
          (try (with_reducible rfl))
        (try simp only [List.getElem_toArray, List.getElem_cons_zero, List.getElem_cons_succ, Act.put, List.setIfInBounds_toArray, List.set_cons_zero, List.set_cons_succ])
        refine wpAnyH_done (by kernel_rfl) ?_ _
        clear hcr' j0' j1' j2' j3' j4' j5' j6' q0 q1 q2 q3 q4 q5 q6 hHeld hHeld9
        have hs5 := HB5.out.size
        have HB25 := Lib.hid (HBR.out.trans (HB1.out.trans (HB5.out.mono (by omega)) |>.mono hsr))
        have HPI5 := Lib.hid (HPI.out.below (HB1.out.trans (HB5.out.mono (by omega))))
        clear HB1 HB5 HPI HKL
        have qT : ∀ (w : World) (a : Option Addr) (n c n' c' : Nat), (binOp .eql 32 (.slice a n c) (.slice none n' c')).run Try.prog w = .ok (.bool a.isNone) w := fun w a n c n' c' => Lib.run_eql_slice_nil w _ _ a n c n' c' Try.underlying32
        have HPW := Lib.hid (HPI5.out.below ((Below.refl w5.heap.size w5).alloc (Nat.le_refl _) (.cells #[.slice none 0 0, .int .i64 0, .slice none 0 0, .slice none 0 0, .slice none 0 0, .int .i64 0, .slice none 0 0] 60)))
        have HKP := Lib.hid (Blk.fresh w5 60 [.slice none 0 0, .int .i64 0, .slice none 0 0, .slice none 0 0, .slice none 0 0, .int .i64 0, .slice none 0 0])
        have hs6 : (w5.alloc (.cells #[.slice none 0 0, .int .i64 0, .slice none 0 0, .slice none 0 0, .slice none 0 0, .int .i64 0, .slice none 0 0] 60)).heap.size = w5.heap.size + 1 := by simp
        have n0 := HKP.out.cell 0
        have n1 := HKP.out.cell 1
        have n2 := HKP.out.cell 2
        have n3 := HKP.out.cell 3
        have n4 := HKP.out.cell 4
        have n5 := HKP.out.cell 5
        have n6 := HKP.out.cell 6
        simp only [List.getElem?_cons_zero, List.getElem?_cons_succ] at n0 n1 n2 n3 n4 n5 n6
        by_cases hqd : qd = []
        · subst hqd
          obtain ⟨rfl, rfl⟩ := HNIL.out rfl
          have HSC : Hid (stepC ls all seed k = some zeroV.c) := Lib.hid (by rw [HSQ.out, if_pos rfl]; rfl)
          have HIN := Lib.hid (zeroV_in (fun g => (Value.slice A9 ps.length c9).ownBlock ≠ some g) (w5.alloc (.cells #[.slice none 0 0, .int .i64 0, .slice none 0 0, .slice none 0 0, .slice none 0 0, .int .i64 0, .slice none 0 0] 60)))
          clear HSQ HPI5 HKP HNIL HR5
          go_upto_region 14 with fail
          generalize (w5.alloc (.cells #[.slice none 0 0, .int .i64 0, .slice none 0 0, .slice none 0 0, .slice none 0 0, .int .i64 0, .slice none 0 0] 60)) = w8 at HPW HIN hs6 n0 n1 n2 n3 n4 n5 n6 ⊢
          clear hs6
          have HPE : Hid (zeroV.cells = [.slice none 0 0, .int .i64 0, .slice none 0 0, .slice none 0 0, .slice none 0 0, .int .i64 0, .slice none 0 0]) := Lib.hid rfl
          have HN := Lib.hid (Blk.fresh w8 60 [.slice none 0 0, .int .i64 0, .slice none 0 0, .slice none 0 0, .slice none 0 0, .int .i64 0, .slice none 0 0])
          have HPW2 := Lib.hid (HPW.out.below ((Below.refl w8.heap.size w8).alloc (Nat.le_refl _) (.cells #[.slice none 0 0, .int .i64 0, .slice none 0 0, .slice none 0 0, .slice none 0 0, .int .i64 0, .slice none 0 0] 60)))
          have HIN2 := Lib.hid (HIN.out.off ((Off.refl (fun _ => False) w8).alloc (.cells #[.slice none 0 0, .int .i64 0, .slice none 0 0, .slice none 0 0, .slice none 0 0, .int .i64 0, .slice none 0 0] 60)) (fun _ _ _ => id) (fun g h _ => h))
          have hsW : w2.heap.size ≤ w8.heap.size := HPW.out.bel.size
          have hpl := HPL.out
          have hps : ps.length ≤ 12 := by omega
          go_wp2_with (at_builtin; refine wpList_extendN elem_par _ rfl (.tmp 55) (.tmp 57) rfl w2.heap.size ps.length _ (ps.flatMap ParV.cells) rfl HPW2.out.own _ 1 _ [.slice none 0 0, .int .i64 0, .slice none 0 0, .slice none 0 0, .slice none 0 0, .int .i64 0, .slice none 0 0] rfl (HN.out.readsN (n := 1) rfl (by decide)) rfl (by simp [Value.oneCell']) (by unfold maxLen; omega) (by omega) (by simp; omega) ?_; intro A9' c9' w9 hown9 hgrow9 hfr9)
          have HNX := Lib.hid (HPW2.out.next HIN2.out hgrow9 hfr9 (by rw [HPE.out]; exact hown9))
          have HST2 := Lib.hid (steps_next HST.out (p := zeroV) (by rw [hpl]; exact HSC.out))
          clear hown9 hgrow9 hfr9
          go_roundw
          case rel => exact ⟨k + 1, ps ++ [zeroV], by omega, by go_num, Lib.hid (by simp [hpl]), HST2, by rw [← hpl]; exact HNX⟩
          case measure => simp [intOf]; omega
        · obtain ⟨g5, o5, rfl, _⟩ : ∃ g o, A5 = some ⟨g, o, none⟩ ∧ True := by
            obtain ⟨A', n', c', e, hl, _, _, ha⟩ := HR5.out
            injection e with e1 e2 e3
            subst e1 e2
            obtain ⟨g, o, e, _⟩ := ha.out (by have := List.length_pos_iff.2 hqd; rw [length_ints] at hl; omega)
            exact ⟨g, o, e, trivial⟩
          by_cases hsi : 0 < sizeI qd
          · have ts : decide (0 < sizeI qd) = true := decide_eq_true hsi
            have hsb := sizeI_bound qd
            obtain ⟨N, hN⟩ : ∃ N : Nat, sizeI qd = N := ⟨(sizeI qd).toNat, by omega⟩
            have hqs : 1 ≤ qn ∧ qn ≤ 4096 := HDS.out hqd hsi
            obtain ⟨nn, hnn⟩ : ∃ nn : Nat, qn = nn := ⟨qn.toNat, by omega⟩
            have HSC : Hid (stepC ls all seed k = some (madeC qd qn seed ((k : Int) + 1))) := Lib.hid (by rw [HSQ.out, if_neg hqd, if_pos hsi])
            have HR6 := Lib.hid (HR5.out.alloc (Nat.le_refl _) (.cells #[.slice none 0 0, .int .i64 0, .slice none 0 0, .slice none 0 0, .slice none 0 0, .int .i64 0, .slice none 0 0] 60))
            have HMD := Lib.hid (made_any qd qn seed ((k : Int) + 1) _ N nn (w5.alloc (.cells #[.slice none 0 0, .int .i64 0, .slice none 0 0, .slice none 0 0, .slice none 0 0, .int .i64 0, .slice none 0 0] 60)) w5.heap.size (by simp) HR6.out HDI.out hN (by omega) hnn (by omega) (by omega) s0 s1 (by omega) (by omega))
            clear HSQ HNIL HR5 hsi hsb hN hqs hnn hqd n0 n1 n2 n3 n4 n5 n6
            go_wp2_with fail
            refine (shapemay_any qd _ _ _ HR6.out HDI.out).mono ?_
            rintro en w6 ⟨rfl, rfl⟩
            rw [ts]
            dsimp only
            go_wp2_with fail
            refine HMD.out.mono ?_
            rintro en w7 ⟨p, rfl, hpc, hpin, hb7⟩
            have HP7 := Lib.hid (HKP.out.below hb7 (by omega))
            have HIN7 := Lib.hid hpin
            have HB7 := Lib.hid hb7
            simp only [World.size_alloc] at HIN7 HB7
            have HPW7 := Lib.hid (HPW.out.below hb7)
            have HPC := Lib.hid hpc
            have hm7 := HP7.out.lt
            have m0 := HP7.out.cell 0
            have m1 := HP7.out.cell 1
            have m2 := HP7.out.cell 2
            have m3 := HP7.out.cell 3
            have m4 := HP7.out.cell 4
            have m5 := HP7.out.cell 5
            have m6 := HP7.out.cell 6
            simp only [List.getElem?_cons_zero, List.getElem?_cons_succ] at m0 m1 m2 m3 m4 m5 m6
            have f0 := HP7.out.free 0
            have f1 := HP7.out.free 1
            have f2 := HP7.out.free 2
            have f3 := HP7.out.free 3
            have f4 := HP7.out.free 4
            have f5 := HP7.out.free 5
            have f6 := HP7.out.free 6
            clear hb7 hpin HMD hpc
            have hs7 := HPW7.out.bel.size
            obtain ⟨B1, d1, e1⟩ := HIN7.out.wd.form
            obtain ⟨B2, d2, e2⟩ := HIN7.out.wx.form
            obtain ⟨B3, d3, e3⟩ := HIN7.out.m.form
            obtain ⟨B4, d4, e4⟩ := HIN7.out.bd.form
            obtain ⟨B5, d5, e5⟩ := HIN7.out.bx.form
            rw [length_ints] at e1 e2 e3 e4 e5
            unfold ParV.agg
            rw [e1, e2, e3, e4, e5]
            have HPE : Hid (p.cells = [.slice B1 p.c.wd.length d1, .int .i64 p.c.we, .slice B2 p.c.wx.length d2, .slice B3 p.c.m.length d3, .slice B4 p.c.bd.length d4, .int .i64 p.c.be, .slice B5 p.c.bx.length d5]) := Lib.hid (by unfold ParV.cells; rw [e1, e2, e3, e4, e5])
            clear e1 e2 e3 e4 e5
            go_upto_region 14 with fail
            have hq := seven_ok HP7.out (.slice B1 p.c.wd.length d1) (.int .i64 p.c.we) (.slice B2 p.c.wx.length d2) (.slice B3 p.c.m.length d3) (.slice B4 p.c.bd.length d4) (.int .i64 p.c.be) (.slice B5 p.c.bx.length d5)
            unfold seven at hq
            generalize (((((((w7.setCell ⟨w5.heap.size, 0, none⟩ (.slice B1 p.c.wd.length d1)).setCell ⟨w5.heap.size, 1, none⟩ (.int .i64 p.c.we)).setCell ⟨w5.heap.size, 2, none⟩ (.slice B2 p.c.wx.length d2)).setCell ⟨w5.heap.size, 3, none⟩ (.slice B3 p.c.m.length d3)).setCell ⟨w5.heap.size, 4, none⟩ (.slice B4 p.c.bd.length d4)).setCell ⟨w5.heap.size, 5, none⟩ (.int .i64 p.c.be)).setCell ⟨w5.heap.size, 6, none⟩ (.slice B5 p.c.bx.length d5)) = w8 at hq ⊢
            have hw7 := HB7.out.size
            have hB8 : Below w5.heap.size w5 w8 := ((((Below.refl w5.heap.size w5).alloc (Nat.le_refl _) (.cells #[.slice none 0 0, .int .i64 0, .slice none 0 0, .slice none 0 0, .slice none 0 0, .int .i64 0, .slice none 0 0] 60)).trans (HB7.out.mono (by omega))).trans (hq.1.below (by omega) (fun i hi => by omega)))
            have HPW8 := Lib.hid (HPI5.out.below hB8)
            have hu5 := HPI5.out.lt
            have HIN := Lib.hid (HIN7.out.off (S' := fun g => (Value.slice A9 ps.length c9).ownBlock ≠ some g) hq.1 (fun g hg _ => by omega) (fun g hg _ he => by have := (hu5 g he).2; omega))
            have hk8 := hq.2
            have n0 := hk8.cell 0
            have n1 := hk8.cell 1
            have n2 := hk8.cell 2
            have n3 := hk8.cell 3
            have n4 := hk8.cell 4
            have n5 := hk8.cell 5
            have n6 := hk8.cell 6
            simp only [List.getElem?_cons_zero, List.getElem?_cons_succ] at n0 n1 n2 n3 n4 n5 n6
            rw [← HPC.out] at HSC
            clear hq hk8 hu5 hB8 HPW HPW7 HP7 HKP HIN7 HPI5 m0 m1 m2 m3 m4 m5 m6 f0 f1 f2 f3 f4 f5 f6 hs6 hw7 HB7
            have HPW := HPW8
            have HN := Lib.hid (Blk.fresh w8 60 [.slice B1 p.c.wd.length d1, .int .i64 p.c.we, .slice B2 p.c.wx.length d2, .slice B3 p.c.m.length d3, .slice B4 p.c.bd.length d4, .int .i64 p.c.be, .slice B5 p.c.bx.length d5])
            have HPW2 := Lib.hid (HPW.out.below ((Below.refl w8.heap.size w8).alloc (Nat.le_refl _) (.cells #[.slice B1 p.c.wd.length d1, .int .i64 p.c.we, .slice B2 p.c.wx.length d2, .slice B3 p.c.m.length d3, .slice B4 p.c.bd.length d4, .int .i64 p.c.be, .slice B5 p.c.bx.length d5] 60)))
            have HIN2 := Lib.hid (HIN.out.off ((Off.refl (fun _ => False) w8).alloc (.cells #[.slice B1 p.c.wd.length d1, .int .i64 p.c.we, .slice B2 p.c.wx.length d2, .slice B3 p.c.m.length d3, .slice B4 p.c.bd.length d4, .int .i64 p.c.be, .slice B5 p.c.bx.length d5] 60)) (fun _ _ _ => id) (fun g h _ => h))
            have hsW : w2.heap.size ≤ w8.heap.size := HPW.out.bel.size
            have hpl := HPL.out
            have hps : ps.length ≤ 12 := by omega
            go_wp2_with (at_builtin; refine wpList_extendN elem_par _ rfl (.tmp 55) (.tmp 57) rfl w2.heap.size ps.length _ (ps.flatMap ParV.cells) rfl HPW2.out.own _ 1 _ [.slice B1 p.c.wd.length d1, .int .i64 p.c.we, .slice B2 p.c.wx.length d2, .slice B3 p.c.m.length d3, .slice B4 p.c.bd.length d4, .int .i64 p.c.be, .slice B5 p.c.bx.length d5] rfl (HN.out.readsN (n := 1) rfl (by decide)) rfl (by simp [Value.oneCell']) (by unfold maxLen; omega) (by omega) (by simp; omega) ?_; intro A9' c9' w9 hown9 hgrow9 hfr9)
            have HNX := Lib.hid (HPW2.out.next HIN2.out hgrow9 hfr9 (by rw [HPE.out]; exact hown9))
            have HST2 := Lib.hid (steps_next HST.out (p := p) (by rw [hpl]; exact HSC.out))
            clear hown9 hgrow9 hfr9
            go_roundw
            case rel => exact ⟨k + 1, ps ++ [p], by omega, by go_num, Lib.hid (by simp [hpl]), HST2, by rw [← hpl]; exact HNX⟩
            case measure => simp [intOf]; omega
          · have ts : decide (0 < sizeI qd) = false := decide_eq_false hsi
            have HSC : Hid (stepC ls all seed k = none) := Lib.hid (by rw [HSQ.out, if_neg hqd, if_neg hsi])
            have HR6 := Lib.hid (HR5.out.alloc (Nat.le_refl _) (.cells #[.slice none 0 0, .int .i64 0, .slice none 0 0, .slice none 0 0, .slice none 0 0, .int .i64 0, .slice none 0 0] 60))
            clear HSQ HPI5 HKP HNIL HR5 hsi hqd n0 n1 n2 n3 n4 n5 n6
            go_wp2_with fail
            refine (shapemay_any qd _ _ _ HR6.out HDI.out).mono ?_
            rintro en w6 ⟨rfl, rfl⟩
            rw [ts]
            dsimp only
            go_wp2
            refine bodyPost_ret (v := .tuple #[.slice none 0 0, .int .i64 1]) (by simp [results, Try.results25, go_sem]) rfl ?_
            have he : initE a b c ls seed = 1 := by rw [HE.out, if_pos (any_none hlt HSC.out)]
            exact ⟨HB2.out.trans (HPW.out.bel.mono HB2.out.size), .inl ⟨by rw [he]; omega, by rw [he]⟩⟩
      · obtain rfl : k = ls.length := by omega
        obtain ⟨A9, c9, rfl⟩ := HPI.out.form
        go_wp2
        refine bodyPost_ret (v := .tuple #[.slice A9 ps.length c9, .int .i64 0]) (by simp [results, Try.results25, go_sem]) rfl ?_
        have hpl := HPL.out
        have he : initE a b c ls seed = 0 := by
          rw [HE.out, ← hpl, any_some HST.out]
          rfl
        refine ⟨HB2.out.trans (HPI.out.bel.mono HB2.out.size), .inr ⟨he, ps, A9, c9, rfl, ?_, HPI.out.pars (by omega), hpl, h12⟩⟩
        rw [HIL.out, ← hpl]
        exact map_steps HST.out
end Go.Proofs.Ytkileiikffomlaa
