/- The walk of ParamsSizes. -/
import Derived.Test.YtkileiikffomlaaParAwake
import Derived.Test.YtkileiikffomlaaOpenM
import Derived.Test.YtkileiikffomlaaNetRDims
namespace Go.Proofs.Ytkileiikffomlaa
open Go.RowKit
set_option linter.unusedVariables false
set_option linter.unusedSimpArgs false

theorem pdimsI_cases (a b c : Int) (ls : List LayV) (layer : Int) :
    pdimsI a b c ls layer = ([], 0) ∨ ∃ (m : Nat) (l : LayV) (x : Int), layer = (m : Int) + 1 ∧ ls[m]? = some l ∧ 0 < sizeI (pdimsI a b c ls layer).1 ∧
      ((l.kind = 1 ∧ pdimsI a b c ls layer = ([l.out, x], l.out)) ∨ (l.kind = 2 ∧ pdimsI a b c ls layer = ([l.out, x, l.k, l.k], l.out))) := by
  by_cases h : (shapesM a b c ls).2.2 = 0 ∧ 1 ≤ layer ∧ layer ≤ ls.length
  · obtain ⟨m, hm⟩ : ∃ m : Nat, layer = (m : Int) + 1 := ⟨(layer - 1).toNat, by omega⟩
    have hml : m < ls.length := by omega
    have e1 : (layer - 1).toNat = m := by omega
    have hl : ls[m]? = some ls[m] := List.getElem?_eq_getElem hml
    obtain ⟨d, hd⟩ : ∃ d, (shapesM a b c ls).1.getD m [] = d := ⟨_, rfl⟩
    have hq : pdimsI a b c ls layer = if 0 < sizeI (dimsI ls[m] d).1 then dimsI ls[m] d else ([], 0) := by
      unfold pdimsI
      rw [if_pos h, e1, hd]
      simp only [List.getD_eq_getElem?_getD, hl, Option.getD_some]
    rw [hq]
    by_cases h2 : 0 < sizeI (dimsI ls[m] d).1
    · rw [if_pos h2]
      by_cases k1 : ls[m].kind = 1
      · have e : dimsI ls[m] d = ([ls[m].out, d.headD 0], ls[m].out) := by unfold dimsI; rw [if_pos k1]
        exact .inr ⟨m, ls[m], d.headD 0, hm, hl, h2, .inl ⟨k1, e⟩⟩
      · by_cases k2 : ls[m].kind = 2
        · have e : dimsI ls[m] d = ([ls[m].out, d.headD 0, ls[m].k, ls[m].k], ls[m].out) := by unfold dimsI; rw [if_neg k1, if_pos k2]
          exact .inr ⟨m, ls[m], d.headD 0, hm, hl, h2, .inr ⟨k2, e⟩⟩
        · have e : dimsI ls[m] d = ([], 0) := by unfold dimsI; rw [if_neg k1, if_neg k2]
          exact .inl e
    · rw [if_neg h2]
      exact .inl rfl
  · refine .inl ?_
    unfold pdimsI
    rw [if_neg h]
theorem sizeGo_each : ∀ (d : List Int) (n : Int), 0 < sizeGo n d → ∀ x ∈ d, 1 ≤ x ∧ x ≤ 4096
  | [], _, _, x, hx => by cases hx
  | y :: d, n, h, x, hx => by
    unfold sizeGo at h
    split at h
    · omega
    · rcases List.mem_cons.1 hx with rfl | hx
      · omega
      · exact sizeGo_each d _ h x hx
theorem size_pos_each (d : List Int) (h : 0 < sizeI d) : ∀ x ∈ d, 1 ≤ x ∧ x ≤ 4096 := by
  unfold sizeI at h
  split at h
  · omega
  · exact sizeGo_each d 1 h
theorem size_pos_in : ∀ (d : List Int), 0 < sizeI d → ∀ x ∈ d, -9223372036854775808 ≤ x ∧ x ≤ 9223372036854775807 := by
  intro d h x hx
  have h2 := size_pos_each d h x hx
  omega
set_option maxHeartbeats 3200000 in
set_option maxRecDepth 100000 in
theorem paramsSizes_walk (v0 : Value) (a0 : NetV) (a1 : Int) (w : World) (o0 : NetOf w v0 a0) (w1 : (Lit.int .i64 a1).wf = true) :
    Calls Try.prog 8 #[v0, .int .i64 a1] w fun en w' => en = .returned (.bool true) ∧ Below w.heap.size w w' := by
  obtain ⟨a, b, c, lv, ls⟩ := a0
  obtain ⟨rfl, wa, wb, wc, hl⟩ := o0
  simp only at hl wa wb wc ⊢
  obtain ⟨A, cc, rfl⟩ := hl.form
  have hlen := hl.len
  have hb0 := net_one w (.cells #[.int .i64 a, .int .i64 b, .int .i64 c, .slice A ls.length cc] 25)
  have hsz : w.heap.size < (w.alloc (.cells #[.int .i64 a, .int .i64 b, .int .i64 c, .slice A ls.length cc] 25)).heap.size := by simp
  have KB := Lib.hid (Blk.fresh w 25 [.int .i64 a, .int .i64 b, .int .i64 c, .slice A ls.length cc])
  obtain ⟨q, hq⟩ : ∃ q, pdimsI a b c ls a1 = q := ⟨_, rfl⟩
  have HC := Lib.hid (pdims_any a b c _ ls a1 (w.alloc (.cells #[.int .i64 a, .int .i64 b, .int .i64 c, .slice A ls.length cc] 25)) w.heap.size (by omega) (hl.below hb0) q hq)
  have hor := pdimsI_cases a b c ls a1
  rw [hq] at hor
  have HB0 := Lib.hid hb0
  have HL := Lib.hid hl
  have hww := wf_int w1
  clear hl hb0 wa wb wc w1 hq
  rcases hor with rfl | ⟨m, l, x, rfl, hlm, hsi, hk⟩
  · dsimp only at HC
    go_enter Try.func8, Try.ntmps8
    go_wp2_with fail
    refine HC.out.mono ?_
    rintro en w2 ⟨A2, c2, rfl, _, hb2, _⟩
    have HB2 := Lib.hid (HB0.out.trans (hb2.mono (by omega)))
    clear hb2
    dsimp only [List.length_nil]
    go_wp2_with (go_at_call 22; refine (awake17_any _).mono ?_; rintro en wd ⟨rfl, hb4⟩)
    go_ret
    exact ⟨rfl, HB2.out.trans (hb4.mono HB2.out.size)⟩
  · have hml : m < ls.length := (List.getElem?_eq_some_iff.1 hlm).1
    have t1 : decide ((m : Int) + 1 < 1) = false := decide_eq_false (by omega)
    have t2 : decide ((ls.length : Int) < (m : Int) + 1) = false := decide_eq_false (by omega)
    have hw1 : IntKind.i64.wrap (m : Int) = (m : Int) := IntWalk.i64_in _ (by omega)
    have i0 : 0 ≤ (m : Int) := by omega
    have i1 : (m : Int) < (ls.length : Int) := by omega
    obtain ⟨kd, out, k, st, pd, fr, fz⟩ := l
    dsimp only at hk
    have HLM := Lib.hid hlm
    clear hlm
    rcases hk with ⟨rfl, rfl⟩ | ⟨rfl, rfl⟩
    · dsimp only at HC hsi
      have ts : decide (0 < sizeI [out, x]) = true := decide_eq_true hsi
      have HDB := Lib.hid (size_pos_in _ hsi)
      clear hsi
      go_enter Try.func8, Try.ntmps8
      go_wp2_with fail
      refine HC.out.mono ?_
      rintro en w2 ⟨A2, c2, rfl, hr2, hb2, _⟩
      have HB2 := Lib.hid (HB0.out.trans (hb2.mono (by omega)))
      have K2 := Lib.hid (KB.out.below hb2 hsz)
      have HR2 := Lib.hid hr2
      have k0 := K2.out.cell 0
      have k1 := K2.out.cell 1
      have k2 := K2.out.cell 2
      have k3 := K2.out.cell 3
      simp only [List.getElem?_cons_zero, List.getElem?_cons_succ] at k0 k1 k2 k3
      have hL2 := HL.out.below HB2.out
      obtain ⟨gl, ol, cl, l, e2, hll, hlok, hgl, q0, q1, q2, q3, q4, q5, q6⟩ := hL2.at_ hml
      injection e2 with e2 _ e4
      subst e2 e4
      rw [HLM.out] at hll
      injection hll with hll
      subst hll
      dsimp only at q0 q1 q2 q3 q4 q5 q6
      obtain ⟨gq, oq, rfl, hgq, x0⟩ := cells_of hr2 (k := 0) rfl
      rw [Nat.add_zero] at x0
      have hw2 := HB2.out.size
      have hgl2 : gl < w2.heap.size := by omega
      dsimp only [List.length_cons, List.length_nil, Nat.zero_add] at HR2 ⊢
      clear hb2 hr2 hL2 hlok
      go_upto_region 7 with fail
      have HK7 := Lib.hid (Blk.fresh w2 43 [.int .i64 1, .int .i64 out, .int .i64 k, .int .i64 st, .int .i64 pd, .int .i64 fr, .bool fz])
      have j0 := HK7.out.cell 0
      have j1 := HK7.out.cell 1
      have j2 := HK7.out.cell 2
      simp only [List.getElem?_cons_zero, List.getElem?_cons_succ] at j0 j1 j2
      have hbl := (Below.refl w2.heap.size w2).alloc (Nat.le_refl _) (.cells #[.int .i64 1, .int .i64 out, .int .i64 k, .int .i64 st, .int .i64 pd, .int .i64 fr, .bool fz] 43)
      have y0 := (hbl.cell (p := ⟨gq, oq, none⟩) hgq).trans x0
      have HR3 := Lib.hid (HR2.out.below hbl)
      have HB3 := Lib.hid (HB2.out.alloc hw2 (.cells #[.int .i64 1, .int .i64 out, .int .i64 k, .int .i64 st, .int .i64 pd, .int .i64 fr, .bool fz] 43))
      have hs3 : (w2.alloc (.cells #[.int .i64 1, .int .i64 out, .int .i64 k, .int .i64 st, .int .i64 pd, .int .i64 fr, .bool fz] 43)).heap.size = w2.heap.size + 1 := by simp
      generalize (w2.alloc (.cells #[.int .i64 1, .int .i64 out, .int .i64 k, .int .i64 st, .int .i64 pd, .int .i64 fr, .bool fz] 43)) = w3 at y0 j0 j1 j2 HR3 HB3 hs3 HK7 ⊢
      clear hbl q0 q1 q2 q3 q4 q5 q6 k0 k1 k2 k3 x0 HR2 HC HB0 KB K2 HL HK7
      refine wp_region_held_drew (S := ((fun w' => w'.cell? ⟨gq, oq, none⟩ = some (.int .i64 out) ∧ w'.cell? ⟨w2.heap.size, 0, none⟩ = some (.int .i64 1) ∧ w'.cell? ⟨w2.heap.size, 1, none⟩ = some (.int .i64 out) ∧ w'.cell? ⟨w2.heap.size, 2, none⟩ = some (.int .i64 k)))) (by kernel_rfl) (⟨y0, j0, j1, j2⟩) (fun hHeld => ?_)
      refine' wpAnyH_take (i := 0) (v := _) rfl (by kernel_rfl) (by kernel_rfl) (by kernel_rfl) (fun _ _ _ h => h) (Or.inl ⟨by rfl, ?taq1⟩) (by assumption) ?tbq1
      case taq1 =>
        intro wS hSw
        (try dsimp only at hSw)
        go_simp
        (try (with_reducible rfl))
      (try simp only [List.getElem_toArray, List.getElem_cons_zero, List.getElem_cons_succ, Act.put, List.setIfInBounds_toArray, List.set_cons_zero, List.set_cons_succ])
      refine' wpAnyH_take (i := 1) (v := _) rfl (by kernel_rfl) (by kernel_rfl) (by kernel_rfl) (fun _ _ _ h => h) (Or.inl ⟨by rfl, ?taq2⟩) (by assumption) ?tbq2
      case taq2 =>
        intro wS hSw
        (try dsimp only at hSw)
        go_simp
        (try (with_reducible rfl))
      (try simp only [List.getElem_toArray, List.getElem_cons_zero, List.getElem_cons_succ, Act.put, List.setIfInBounds_toArray, List.set_cons_zero, List.set_cons_succ])
      refine' wpAnyH_take (i := 2) (v := _) rfl (by kernel_rfl) (by kernel_rfl) (by kernel_rfl) (fun _ _ _ h => h) (Or.inl ⟨by rfl, ?taq3⟩) (by assumption) ?tbq3
      case taq3 =>
        intro wS hSw
        (try dsimp only at hSw)
        go_simp
        (try (with_reducible rfl))
      (try simp only [List.getElem_toArray, List.getElem_cons_zero, List.getElem_cons_succ, Act.put, List.setIfInBounds_toArray, List.set_cons_zero, List.set_cons_succ])
      refine' wpAnyH_take (i := 3) (v := _) rfl (by kernel_rfl) (by kernel_rfl) (by kernel_rfl) (fun _ _ _ h => h) (Or.inl ⟨by rfl, ?taq4⟩) (by assumption) ?tbq4
      case taq4 =>
        intro wS hSw
        (try dsimp only at hSw)
        go_simp
        (try (with_reducible rfl))
      (try simp only [List.getElem_toArray, List.getElem_cons_zero, List.getElem_cons_succ, Act.put, List.setIfInBounds_toArray, List.set_cons_zero, List.set_cons_succ])
      refine' wpAnyH_take (i := 4) (v := _) rfl (by kernel_rfl) (by kernel_rfl) (by kernel_rfl) (fun _ _ _ h => h) (Or.inl ⟨by rfl, ?taq5⟩) (by assumption) ?tbq5
      case taq5 =>
        intro wS hSw
        (try dsimp only at hSw)
        go_simp
        (try (with_reducible rfl))
      (try simp only [List.getElem_toArray, List.getElem_cons_zero, List.getElem_cons_succ, Act.put, List.setIfInBounds_toArray, List.set_cons_zero, List.set_cons_succ])
      refine' wpAnyH_take (i := 5) (v := _) rfl (by kernel_rfl) (by kernel_rfl) (by kernel_rfl) (fun _ _ _ h => h) (Or.inl ⟨by rfl, ?taq6⟩) (by assumption) ?tbq6
      case taq6 =>
        intro wS hSw
        (try dsimp only at hSw)
        go_simp
        (try (with_reducible rfl))
      (try simp only [List.getElem_toArray, List.getElem_cons_zero, List.getElem_cons_succ, Act.put, List.setIfInBounds_toArray, List.set_cons_zero, List.set_cons_succ])
      refine' wpAnyH_take (i := 6) (v := _) rfl (by kernel_rfl) (by kernel_rfl) (by kernel_rfl) (fun _ _ _ h => h) (Or.inl ⟨by rfl, ?taq7⟩) (by assumption) ?tbq7
      case taq7 =>
        intro wS hSw
        (try dsimp only at hSw)
        go_simp
        (try (with_reducible rfl))
      (try simp only [List.getElem_toArray, List.getElem_cons_zero, List.getElem_cons_succ, Act.put, List.setIfInBounds_toArray, List.set_cons_zero, List.set_cons_succ])
      refine' wpAnyH_take (i := 7) (v := _) rfl (by kernel_rfl) (by kernel_rfl) (by kernel_rfl) (fun _ _ _ h => h) (Or.inl ⟨by rfl, ?taq8⟩) (by assumption) ?tbq8
      case taq8 =>
        intro wS hSw
        (try dsimp only at hSw)
        go_simp
        (try (with_reducible rfl))
      (try simp only [List.getElem_toArray, List.getElem_cons_zero, List.getElem_cons_succ, Act.put, List.setIfInBounds_toArray, List.set_cons_zero, List.set_cons_succ])
      refine' wpAnyH_take (i := 8) (v := _) rfl (by kernel_rfl) (by kernel_rfl) (by kernel_rfl) (fun _ _ _ h => h) (Or.inl ⟨by rfl, ?taq9⟩) (by assumption) ?tbq9
      case taq9 =>
        intro wS hSw
        (try dsimp only at hSw)
        go_simp
        (try (with_reducible rfl))
      (try simp only [List.getElem_toArray, List.getElem_cons_zero, List.getElem_cons_succ, Act.put, List.setIfInBounds_toArray, List.set_cons_zero, List.set_cons_succ])
      refine' wpAnyH_take (i := 9) (v := _) rfl (by kernel_rfl) (by kernel_rfl) (by kernel_rfl) (fun _ _ _ h => h) (Or.inl ⟨by rfl, ?taq10⟩) (by assumption) ?tbq10
      case taq10 =>
        intro wS hSw
        (try dsimp only at hSw)
        go_simp
        (try (with_reducible rfl))
      (try simp only [List.getElem_toArray, List.getElem_cons_zero, List.getElem_cons_succ, Act.put, List.setIfInBounds_toArray, List.set_cons_zero, List.set_cons_succ])
      refine' wpAnyH_take (i := 10) (v := _) rfl (by kernel_rfl) (by kernel_rfl) (by kernel_rfl) (fun _ _ _ h => h) (Or.inl ⟨by rfl, ?taq11⟩) (by assumption) ?tbq11
      case taq11 =>
        intro wS hSw
        (try dsimp only at hSw)
        go_simp
        (try (with_reducible rfl))
      (try simp only [List.getElem_toArray, List.getElem_cons_zero, List.getElem_cons_succ, Act.put, List.setIfInBounds_toArray, List.set_cons_zero, List.set_cons_succ])
      refine' wpAnyH_take (i := 11) (v := _) rfl (by kernel_rfl) (by kernel_rfl) (by kernel_rfl) (fun _ _ _ h => h) (Or.inl ⟨by rfl, ?taq12⟩) (by assumption) ?tbq12
      case taq12 =>
        intro wS hSw
        (try dsimp only at hSw)
        go_simp
        (try (with_reducible rfl))
      (try simp only [List.getElem_toArray, List.getElem_cons_zero, List.getElem_cons_succ, Act.put, List.setIfInBounds_toArray, List.set_cons_zero, List.set_cons_succ])
      refine' wpAnyH_take (i := 12) (v := _) rfl (by kernel_rfl) (by kernel_rfl) (by kernel_rfl) (fun _ _ _ h => h) (Or.inl ⟨by rfl, ?taq13⟩) (by assumption) ?tbq13
      case taq13 =>
        intro wS hSw
        (try dsimp only at hSw)
        go_simp
        (try (with_reducible rfl))
      (try simp only [List.getElem_toArray, List.getElem_cons_zero, List.getElem_cons_succ, Act.put, List.setIfInBounds_toArray, List.set_cons_zero, List.set_cons_succ])
      refine' wpAnyH_take (i := 13) (v := _) rfl (by kernel_rfl) (by kernel_rfl) (by kernel_rfl) (fun _ _ _ h => h) (Or.inl ⟨by rfl, ?taq14⟩) (by assumption) ?tbq14
      case taq14 =>
        intro wS hSw
        (try dsimp only at hSw)
        go_simp
        (try (with_reducible rfl))
      (try simp only [List.getElem_toArray, List.getElem_cons_zero, List.getElem_cons_succ, Act.put, List.setIfInBounds_toArray, List.set_cons_zero, List.set_cons_succ])
      refine wpAnyH_ready (rs := [14]) (by kernel_rfl) (by simp) ?_
      refine AllReadyH.cons rfl (fun K9 hK9 => ?_) AllReadyH.nil
      (try simp only [List.getElem_toArray, List.getElem_cons_zero, List.getElem_cons_succ])
      go_simp
      refine (maydims_any [out, x] _ w3.drew w2.heap.size HR3.out.drew HDB.out).mono ?_
      rintro en w4 ⟨rfl, rfl⟩
      rw [ts]
      dsimp only
      refine hK9.out _ _ (⟨y0, j0, j1, j2⟩) (fun hHeld9 => ?_)
      clear hK9 K9
      (try simp only [List.getElem_toArray, List.getElem_cons_zero, List.getElem_cons_succ, Act.put, List.setIfInBounds_toArray, List.set_cons_zero, List.set_cons_succ])
      refine' wpAnyH_take (i := 15) (v := _) rfl (by kernel_rfl) (by kernel_rfl) (by kernel_rfl) (fun _ _ _ h => h) (Or.inl ⟨by rfl, ?taq15⟩) (by assumption) ?tbq15
      case taq15 =>
        intro wS hSw
        (try dsimp only at hSw)
        go_simp
        (try (with_reducible rfl))
      (try simp only [List.getElem_toArray, List.getElem_cons_zero, List.getElem_cons_succ, Act.put, List.setIfInBounds_toArray, List.set_cons_zero, List.set_cons_succ])
      refine' wpAnyH_take (i := 16) (v := _) rfl (by kernel_rfl) (by kernel_rfl) (by kernel_rfl) (fun _ _ _ h => h) (Or.inl ⟨by rfl, ?taq16⟩) (by assumption) ?tbq16
      case taq16 =>
        intro wS hSw
        (try dsimp only at hSw)
        go_simp
        (try (with_reducible rfl))
      (try simp only [List.getElem_toArray, List.getElem_cons_zero, List.getElem_cons_succ, Act.put, List.setIfInBounds_toArray, List.set_cons_zero, List.set_cons_succ])
      refine' wpAnyH_take (i := 17) (v := _) rfl (by kernel_rfl) (by kernel_rfl) (by kernel_rfl) (fun _ _ _ h => h) (Or.inl ⟨by rfl, ?taq17⟩) (by assumption) ?tbq17
      case taq17 =>
        intro wS hSw
        (try dsimp only at hSw)
        go_simp
        (try (with_reducible rfl))
      (try simp only [List.getElem_toArray, List.getElem_cons_zero, List.getElem_cons_succ, Act.put, List.setIfInBounds_toArray, List.set_cons_zero, List.set_cons_succ])
      refine' wpAnyH_take (i := 18) (v := _) rfl (by kernel_rfl) (by kernel_rfl) (by kernel_rfl) (fun _ _ _ h => h) (Or.inl ⟨by rfl, ?taq18⟩) (by assumption) ?tbq18
      case taq18 =>
        intro wS hSw
        (try dsimp only at hSw)
        go_simp
        (try (with_reducible rfl))
      (try simp only [List.getElem_toArray, List.getElem_cons_zero, List.getElem_cons_succ, Act.put, List.setIfInBounds_toArray, List.set_cons_zero, List.set_cons_succ])
      refine' wpAnyH_take (i := 19) (v := _) rfl (by kernel_rfl) (by kernel_rfl) (by kernel_rfl) (fun _ _ _ h => h) (Or.inl ⟨by rfl, ?taq19⟩) (by assumption) ?tbq19
      case taq19 =>
        intro wS hSw
        (try dsimp only at hSw)
        go_simp
        (try (with_reducible rfl))
      (try simp only [List.getElem_toArray, List.getElem_cons_zero, List.getElem_cons_succ, Act.put, List.setIfInBounds_toArray, List.set_cons_zero, List.set_cons_succ])
      refine' wpAnyH_take (i := 20) (v := _) rfl (by kernel_rfl) (by kernel_rfl) (by kernel_rfl) (fun _ _ _ h => h) (Or.inl ⟨by rfl, ?taq20⟩) (by assumption) ?tbq20
      case taq20 =>
        intro wS hSw
        (try dsimp only at hSw)
        go_simp
        (try (with_reducible rfl))
      (try simp only [List.getElem_toArray, List.getElem_cons_zero, List.getElem_cons_succ, Act.put, List.setIfInBounds_toArray, List.set_cons_zero, List.set_cons_succ])
      refine' wpAnyH_take (i := 21) (v := _) rfl (by kernel_rfl) (by kernel_rfl) (by kernel_rfl) (fun _ _ _ h => h) (Or.inl ⟨by rfl, ?taq21⟩) (by assumption) ?tbq21
      case taq21 =>
        intro wS hSw
        (try dsimp only at hSw)
        go_simp
        (try (with_reducible rfl))
      (try simp only [List.getElem_toArray, List.getElem_cons_zero, List.getElem_cons_succ, Act.put, List.setIfInBounds_toArray, List.set_cons_zero, List.set_cons_succ])
      refine' wpAnyH_take (i := 22) (v := _) rfl (by kernel_rfl) (by kernel_rfl) (by kernel_rfl) (fun _ _ _ h => h) (Or.inl ⟨by rfl, ?taq22⟩) (by assumption) ?tbq22
      case taq22 =>
        intro wS hSw
        (try dsimp only at hSw)
        go_simp
        (try (with_reducible rfl))
      (try simp only [List.getElem_toArray, List.getElem_cons_zero, List.getElem_cons_succ, Act.put, List.setIfInBounds_toArray, List.set_cons_zero, List.set_cons_succ])
      refine' wpAnyH_take (i := 23) (v := _) rfl (by kernel_rfl) (by kernel_rfl) (by kernel_rfl) (fun _ _ _ h => h) (Or.inl ⟨by rfl, ?taq23⟩) (by assumption) ?tbq23
      case taq23 =>
        intro wS hSw
        (try dsimp only at hSw)
        go_simp
        (try (with_reducible rfl))
      (try simp only [List.getElem_toArray, List.getElem_cons_zero, List.getElem_cons_succ, Act.put, List.setIfInBounds_toArray, List.set_cons_zero, List.set_cons_succ])
      refine' wpAnyH_take (i := 24) (v := _) rfl (by kernel_rfl) (by kernel_rfl) (by kernel_rfl) (fun _ _ _ h => h) (Or.inl ⟨by rfl, ?taq24⟩) (by assumption) ?tbq24
      case taq24 =>
        intro wS hSw
        (try dsimp only at hSw)
        go_simp
        (try (with_reducible rfl))
      (try simp only [List.getElem_toArray, List.getElem_cons_zero, List.getElem_cons_succ, Act.put, List.setIfInBounds_toArray, List.set_cons_zero, List.set_cons_succ])
      refine' wpAnyH_take (i := 25) (v := _) rfl (by kernel_rfl) (by kernel_rfl) (by kernel_rfl) (fun _ _ _ h => h) (Or.inl ⟨by rfl, ?taq25⟩) (by assumption) ?tbq25
      case taq25 =>
        intro wS hSw
        (try dsimp only at hSw)
        go_simp
        (try (with_reducible rfl))
      (try simp only [List.getElem_toArray, List.getElem_cons_zero, List.getElem_cons_succ, Act.put, List.setIfInBounds_toArray, List.set_cons_zero, List.set_cons_succ])
      refine' wpAnyH_take (i := 26) (v := _) rfl (by kernel_rfl) (by kernel_rfl) (by kernel_rfl) (fun _ _ _ h => h) (Or.inr ⟨by rfl, rfl⟩) (by assumption) ?tbq26
      (try simp only [List.getElem_toArray, List.getElem_cons_zero, List.getElem_cons_succ, Act.put, List.setIfInBounds_toArray, List.set_cons_zero, List.set_cons_succ])
      refine' wpAnyH_take (i := 27) (v := _) rfl (by kernel_rfl) (by kernel_rfl) (by kernel_rfl) (fun _ _ _ h => h) (Or.inr ⟨by rfl, rfl⟩) (by assumption) ?tbq27
      (try simp only [List.getElem_toArray, List.getElem_cons_zero, List.getElem_cons_succ, Act.put, List.setIfInBounds_toArray, List.set_cons_zero, List.set_cons_succ])
      refine' wpAnyH_take (i := 28) (v := _) rfl (by kernel_rfl) (by kernel_rfl) (by kernel_rfl) (fun _ _ _ h => h) (Or.inr ⟨by rfl, rfl⟩) (by assumption) ?tbq28
      (try simp only [List.getElem_toArray, List.getElem_cons_zero, List.getElem_cons_succ, Act.put, List.setIfInBounds_toArray, List.set_cons_zero, List.set_cons_succ])
      refine' wpAnyH_take (i := 29) (v := _) rfl (by kernel_rfl) (by kernel_rfl) (by kernel_rfl) (fun _ _ _ h => h) (Or.inr ⟨by rfl, rfl⟩) (by assumption) ?tbq29
      (try simp only [List.getElem_toArray, List.getElem_cons_zero, List.getElem_cons_succ, Act.put, List.setIfInBounds_toArray, List.set_cons_zero, List.set_cons_succ])
      refine' wpAnyH_take (i := 30) (v := _) rfl (by kernel_rfl) (by kernel_rfl) (by kernel_rfl) (fun _ _ _ h => h) (Or.inr ⟨by rfl, rfl⟩) (by assumption) ?tbq30
      (try simp only [List.getElem_toArray, List.getElem_cons_zero, List.getElem_cons_succ, Act.put, List.setIfInBounds_toArray, List.set_cons_zero, List.set_cons_succ])
      refine' wpAnyH_take (i := 31) (v := _) rfl (by kernel_rfl) (by kernel_rfl) (by kernel_rfl) (fun _ _ _ h => h) (Or.inr ⟨by rfl, rfl⟩) (by assumption) ?tbq31
      (try simp only [List.getElem_toArray, List.getElem_cons_zero, List.getElem_cons_succ, Act.put, List.setIfInBounds_toArray, List.set_cons_zero, List.set_cons_succ])
      refine' wpAnyH_take (i := 32) (v := _) rfl (by kernel_rfl) (by kernel_rfl) (by kernel_rfl) (fun _ _ _ h => h) (Or.inr ⟨by rfl, rfl⟩) (by assumption) ?tbq32
      (try simp only [List.getElem_toArray, List.getElem_cons_zero, List.getElem_cons_succ, Act.put, List.setIfInBounds_toArray, List.set_cons_zero, List.set_cons_succ])
      refine' wpAnyH_take (i := 33) (v := _) rfl (by kernel_rfl) (by kernel_rfl) (by kernel_rfl) (fun _ _ _ h => h) (Or.inr ⟨by rfl, rfl⟩) (by assumption) ?tbq33
      (try simp only [List.getElem_toArray, List.getElem_cons_zero, List.getElem_cons_succ, Act.put, List.setIfInBounds_toArray, List.set_cons_zero, List.set_cons_succ])
      refine' wpAnyH_take (i := 34) (v := _) rfl (by kernel_rfl) (by kernel_rfl) (by kernel_rfl) (fun _ _ _ h => h) (Or.inr ⟨by rfl, rfl⟩) (by assumption) ?tbq34
      (try simp only [List.getElem_toArray, List.getElem_cons_zero, List.getElem_cons_succ, Act.put, List.setIfInBounds_toArray, List.set_cons_zero, List.set_cons_succ])
      refine' wpAnyH_take (i := 35) (v := _) rfl (by kernel_rfl) (by kernel_rfl) (by kernel_rfl) (fun _ _ _ h => h) (Or.inr ⟨by rfl, rfl⟩) (by assumption) ?tbq35
      (try simp only [List.getElem_toArray, List.getElem_cons_zero, List.getElem_cons_succ, Act.put, List.setIfInBounds_toArray, List.set_cons_zero, List.set_cons_succ])
      refine' wpAnyH_take (i := 36) (v := _) rfl (by kernel_rfl) (by kernel_rfl) (by kernel_rfl) (fun _ _ _ h => h) (Or.inr ⟨by rfl, rfl⟩) (by assumption) ?tbq36
      (try simp only [List.getElem_toArray, List.getElem_cons_zero, List.getElem_cons_succ, Act.put, List.setIfInBounds_toArray, List.set_cons_zero, List.set_cons_succ])
      refine' wpAnyH_take (i := 37) (v := _) rfl (by kernel_rfl) (by kernel_rfl) (by kernel_rfl) (fun _ _ _ h => h) (Or.inr ⟨by rfl, rfl⟩) (by assumption) ?tbq37
      (try simp only [List.getElem_toArray, List.getElem_cons_zero, List.getElem_cons_succ, Act.put, List.setIfInBounds_toArray, List.set_cons_zero, List.set_cons_succ])
      refine' wpAnyH_take (i := 38) (v := _) rfl (by kernel_rfl) (by kernel_rfl) (by kernel_rfl) (fun _ _ _ h => h) (Or.inr ⟨by rfl, rfl⟩) (by assumption) ?tbq38
      (try simp only [List.getElem_toArray, List.getElem_cons_zero, List.getElem_cons_succ, Act.put, List.setIfInBounds_toArray, List.set_cons_zero, List.set_cons_succ])
      refine' wpAnyH_take (i := 39) (v := _) rfl (by kernel_rfl) (by kernel_rfl) (by kernel_rfl) (fun _ _ _ h => h) (Or.inr ⟨by rfl, rfl⟩) (by assumption) ?tbq39
      (try simp only [List.getElem_toArray, List.getElem_cons_zero, List.getElem_cons_succ, Act.put, List.setIfInBounds_toArray, List.set_cons_zero, List.set_cons_succ])
      refine' wpAnyH_take (i := 40) (v := _) rfl (by kernel_rfl) (by kernel_rfl) (by kernel_rfl) (fun _ _ _ h => h) (Or.inr ⟨by rfl, rfl⟩) (by assumption) ?tbq40
      (try simp only [List.getElem_toArray, List.getElem_cons_zero, List.getElem_cons_succ, Act.put, List.setIfInBounds_toArray, List.set_cons_zero, List.set_cons_succ])
      refine' wpAnyH_take (i := 41) (v := _) rfl (by kernel_rfl) (by kernel_rfl) (by kernel_rfl) (fun _ _ _ h => h) (Or.inr ⟨by rfl, rfl⟩) (by assumption) ?tbq41
      (try simp only [List.getElem_toArray, List.getElem_cons_zero, List.getElem_cons_succ, Act.put, List.setIfInBounds_toArray, List.set_cons_zero, List.set_cons_succ])
      refine' wpAnyH_take (i := 42) (v := _) rfl (by kernel_rfl) (by kernel_rfl) (by kernel_rfl) (fun _ _ _ h => h) (Or.inr ⟨by rfl, rfl⟩) (by assumption) ?tbq42
      (try simp only [List.getElem_toArray, List.getElem_cons_zero, List.getElem_cons_succ, Act.put, List.setIfInBounds_toArray, List.set_cons_zero, List.set_cons_succ])
      refine' wpAnyH_take (i := 43) (v := _) rfl (by kernel_rfl) (by kernel_rfl) (by kernel_rfl) (fun _ _ _ h => h) (Or.inr ⟨by rfl, rfl⟩) (by assumption) ?tbq43
      (try simp only [List.getElem_toArray, List.getElem_cons_zero, List.getElem_cons_succ, Act.put, List.setIfInBounds_toArray, List.set_cons_zero, List.set_cons_succ])
      refine' wpAnyH_take (i := 44) (v := _) rfl (by kernel_rfl) (by kernel_rfl) (by kernel_rfl) (fun _ _ _ h => h) (Or.inr ⟨by rfl, rfl⟩) (by assumption) ?tbq44
      (try simp only [List.getElem_toArray, List.getElem_cons_zero, List.getElem_cons_succ, Act.put, List.setIfInBounds_toArray, List.set_cons_zero, List.set_cons_succ])
      refine' wpAnyH_take (i := 45) (v := _) rfl (by kernel_rfl) (by kernel_rfl) (by kernel_rfl) (fun _ _ _ h => h) (Or.inr ⟨by rfl, rfl⟩) (by assumption) ?tbq45
      (try simp only [List.getElem_toArray, List.getElem_cons_zero, List.getElem_cons_succ, Act.put, List.setIfInBounds_toArray, List.set_cons_zero, List.set_cons_succ])
      refine' wpAnyH_take (i := 46) (v := _) rfl (by kernel_rfl) (by kernel_rfl) (by kernel_rfl) (fun _ _ _ h => h) (Or.inr ⟨by rfl, rfl⟩) (by assumption) ?tbq46
      (try simp only [List.getElem_toArray, List.getElem_cons_zero, List.getElem_cons_succ, Act.put, List.setIfInBounds_toArray, List.set_cons_zero, List.set_cons_succ])
      refine' wpAnyH_take (i := 47) (v := _) rfl (by kernel_rfl) (by kernel_rfl) (by kernel_rfl) (fun _ _ _ h => h) (Or.inr ⟨by rfl, rfl⟩) (by assumption) ?tbq47
      (try simp only [List.getElem_toArray, List.getElem_cons_zero, List.getElem_cons_succ, Act.put, List.setIfInBounds_toArray, List.set_cons_zero, List.set_cons_succ])
      refine' wpAnyH_take (i := 48) (v := _) rfl (by kernel_rfl) (by kernel_rfl) (by kernel_rfl) (fun _ _ _ h => h) (Or.inr ⟨by rfl, rfl⟩) (by assumption) ?tbq48
      (try simp only [List.getElem_toArray, List.getElem_cons_zero, List.getElem_cons_succ, Act.put, List.setIfInBounds_toArray, List.set_cons_zero, List.set_cons_succ])
      refine' wpAnyH_take (i := 49) (v := _) rfl (by kernel_rfl) (by kernel_rfl) (by kernel_rfl) (fun _ _ _ h => h) (Or.inr ⟨by rfl, rfl⟩) (by assumption) ?tbq49
      (try simp only [List.getElem_toArray, List.getElem_cons_zero, List.getElem_cons_succ, Act.put, List.setIfInBounds_toArray, List.set_cons_zero, List.set_cons_succ])
      refine' wpAnyH_take (i := 50) (v := _) rfl (by kernel_rfl) (by kernel_rfl) (by kernel_rfl) (fun _ _ _ h => h) (Or.inl ⟨by rfl, ?taq50⟩) (by assumption) ?tbq50
      case taq50 =>
        intro wS hSw
        (try dsimp only at hSw)
        go_simp
        (try (with_reducible rfl))
      (try simp only [List.getElem_toArray, List.getElem_cons_zero, List.getElem_cons_succ, Act.put, List.setIfInBounds_toArray, List.set_cons_zero, List.set_cons_succ])
      refine' wpAnyH_take (i := 51) (v := _) rfl (by kernel_rfl) (by kernel_rfl) (by kernel_rfl) (fun _ _ _ h => h) (Or.inl ⟨by rfl, ?taq51⟩) (by assumption) ?tbq51
      case taq51 =>
        intro wS hSw
        (try dsimp only at hSw)
        go_simp
        (try (with_reducible rfl))
      (try simp only [List.getElem_toArray, List.getElem_cons_zero, List.getElem_cons_succ, Act.put, List.setIfInBounds_toArray, List.set_cons_zero, List.set_cons_succ])
      refine' wpAnyH_take (i := 52) (v := _) rfl (by kernel_rfl) (by kernel_rfl) (by kernel_rfl) (fun _ _ _ h => h) (Or.inl ⟨by rfl, ?taq52⟩) (by assumption) ?tbq52
      case taq52 =>
        intro wS hSw
        (try dsimp only at hSw)
        go_simp
        (try (with_reducible rfl))
      (try simp only [List.getElem_toArray, List.getElem_cons_zero, List.getElem_cons_succ, Act.put, List.setIfInBounds_toArray, List.set_cons_zero, List.set_cons_succ])
      refine wpAnyH_ready (rs := [53]) (by kernel_rfl) (by simp) ?_
      refine AllReadyH.cons rfl (fun K9 hK9 => ?_) AllReadyH.nil
      (try simp only [List.getElem_toArray, List.getElem_cons_zero, List.getElem_cons_succ])
      go_simp
      refine (awake17_any _).mono ?_
      rintro en w5 ⟨rfl, hb5⟩
      have HB5 := Lib.hid (HB3.out.trans (((Below.refl w3.heap.size w3).drew.trans hb5).mono HB3.out.size))
      have hcc := fun (p : Addr) (hp : p.block < w3.heap.size) => hb5.cell (p := p) hp
      have z0 := (hcc ⟨gq, oq, none⟩ (by show gq < w3.heap.size; omega)).trans y0
      have z1 := (hcc ⟨w2.heap.size, 0, none⟩ (by show w2.heap.size < w3.heap.size; omega)).trans j0
      have z2 := (hcc ⟨w2.heap.size, 1, none⟩ (by show w2.heap.size < w3.heap.size; omega)).trans j1
      have z3 := (hcc ⟨w2.heap.size, 2, none⟩ (by show w2.heap.size < w3.heap.size; omega)).trans j2
      clear hb5 hcc
      dsimp only
      refine hK9.out _ _ (⟨z0, z1, z2, z3⟩) (fun hHeld9 => ?_)
      clear hK9 K9
      (try simp only [List.getElem_toArray, List.getElem_cons_zero, List.getElem_cons_succ, Act.put, List.setIfInBounds_toArray, List.set_cons_zero, List.set_cons_succ])
      refine' wpAnyH_take (i := 54) (v := _) rfl (by kernel_rfl) (by kernel_rfl) (by kernel_rfl) (fun _ _ _ h => h) (Or.inl ⟨by rfl, ?taq53⟩) (by assumption) ?tbq53
      case taq53 =>
        intro wS hSw
        (try dsimp only at hSw)
        go_simp
        (try (with_reducible rfl))
      (try simp only [List.getElem_toArray, List.getElem_cons_zero, List.getElem_cons_succ, Act.put, List.setIfInBounds_toArray, List.set_cons_zero, List.set_cons_succ])
      refine' wpAnyH_take (i := 55) (v := _) rfl (by kernel_rfl) (by kernel_rfl) (by kernel_rfl) (fun _ _ _ h => h) (Or.inl ⟨by rfl, ?taq54⟩) (by assumption) ?tbq54
      case taq54 =>
        intro wS hSw
        (try dsimp only at hSw)
        go_simp
        (try (with_reducible rfl))
      (try simp only [List.getElem_toArray, List.getElem_cons_zero, List.getElem_cons_succ, Act.put, List.setIfInBounds_toArray, List.set_cons_zero, List.set_cons_succ])
      refine wpAnyH_done (by kernel_rfl) ?_ _
      go_wp2_with fail
      go_ret
      exact ⟨rfl, HB5.out⟩
    · dsimp only at HC hsi
      have ts : decide (0 < sizeI [out, x, k, k]) = true := decide_eq_true hsi
      have HDB := Lib.hid (size_pos_in _ hsi)
      clear hsi
      go_enter Try.func8, Try.ntmps8
      go_wp2_with fail
      refine HC.out.mono ?_
      rintro en w2 ⟨A2, c2, rfl, hr2, hb2, _⟩
      have HB2 := Lib.hid (HB0.out.trans (hb2.mono (by omega)))
      have K2 := Lib.hid (KB.out.below hb2 hsz)
      have HR2 := Lib.hid hr2
      have k0 := K2.out.cell 0
      have k1 := K2.out.cell 1
      have k2 := K2.out.cell 2
      have k3 := K2.out.cell 3
      simp only [List.getElem?_cons_zero, List.getElem?_cons_succ] at k0 k1 k2 k3
      have hL2 := HL.out.below HB2.out
      obtain ⟨gl, ol, cl, l, e2, hll, hlok, hgl, q0, q1, q2, q3, q4, q5, q6⟩ := hL2.at_ hml
      injection e2 with e2 _ e4
      subst e2 e4
      rw [HLM.out] at hll
      injection hll with hll
      subst hll
      dsimp only at q0 q1 q2 q3 q4 q5 q6
      obtain ⟨gq, oq, rfl, hgq, x0⟩ := cells_of hr2 (k := 0) rfl
      obtain ⟨gq2, oq2, e5, _, x2⟩ := cells_of hr2 (k := 2) rfl
      injection e5 with e5; injection e5 with e5 e6; subst e5 e6
      obtain ⟨gq3, oq3, e5, _, x3⟩ := cells_of hr2 (k := 3) rfl
      injection e5 with e5; injection e5 with e5 e6; subst e5 e6
      rw [Nat.add_zero] at x0
      have hw2 := HB2.out.size
      have hgl2 : gl < w2.heap.size := by omega
      dsimp only [List.length_cons, List.length_nil, Nat.zero_add] at HR2 ⊢
      clear hb2 hr2 hL2 hlok
      go_upto_region 7 with fail
      have HK7 := Lib.hid (Blk.fresh w2 43 [.int .i64 2, .int .i64 out, .int .i64 k, .int .i64 st, .int .i64 pd, .int .i64 fr, .bool fz])
      have j0 := HK7.out.cell 0
      have j1 := HK7.out.cell 1
      have j2 := HK7.out.cell 2
      simp only [List.getElem?_cons_zero, List.getElem?_cons_succ] at j0 j1 j2
      have hbl := (Below.refl w2.heap.size w2).alloc (Nat.le_refl _) (.cells #[.int .i64 2, .int .i64 out, .int .i64 k, .int .i64 st, .int .i64 pd, .int .i64 fr, .bool fz] 43)
      have y0 := (hbl.cell (p := ⟨gq, oq, none⟩) hgq).trans x0
      have y4 := (hbl.cell (p := ⟨gq, oq + 2, none⟩) hgq).trans x2
      have y5 := (hbl.cell (p := ⟨gq, oq + 3, none⟩) hgq).trans x3
      have HR3 := Lib.hid (HR2.out.below hbl)
      have HB3 := Lib.hid (HB2.out.alloc hw2 (.cells #[.int .i64 2, .int .i64 out, .int .i64 k, .int .i64 st, .int .i64 pd, .int .i64 fr, .bool fz] 43))
      have hs3 : (w2.alloc (.cells #[.int .i64 2, .int .i64 out, .int .i64 k, .int .i64 st, .int .i64 pd, .int .i64 fr, .bool fz] 43)).heap.size = w2.heap.size + 1 := by simp
      generalize (w2.alloc (.cells #[.int .i64 2, .int .i64 out, .int .i64 k, .int .i64 st, .int .i64 pd, .int .i64 fr, .bool fz] 43)) = w3 at y0 j0 j1 j2 HR3 HB3 hs3 HK7 y4 y5 ⊢
      clear hbl q0 q1 q2 q3 q4 q5 q6 k0 k1 k2 k3 x0 HR2 HC HB0 KB K2 HL HK7 x2 x3
      refine wp_region_held_drew (S := ((fun w' => w'.cell? ⟨gq, oq, none⟩ = some (.int .i64 out) ∧ w'.cell? ⟨w2.heap.size, 0, none⟩ = some (.int .i64 2) ∧ w'.cell? ⟨w2.heap.size, 1, none⟩ = some (.int .i64 out) ∧ w'.cell? ⟨w2.heap.size, 2, none⟩ = some (.int .i64 k) ∧ w'.cell? ⟨gq, oq + 2, none⟩ = some (.int .i64 k) ∧ w'.cell? ⟨gq, oq + 3, none⟩ = some (.int .i64 k)))) (by kernel_rfl) (⟨y0, j0, j1, j2, y4, y5⟩) (fun hHeld => ?_)
      refine' wpAnyH_take (i := 0) (v := _) rfl (by kernel_rfl) (by kernel_rfl) (by kernel_rfl) (fun _ _ _ h => h) (Or.inl ⟨by rfl, ?taq55⟩) (by assumption) ?tbq55
      case taq55 =>
        intro wS hSw
        (try dsimp only at hSw)
        go_simp
        (try (with_reducible rfl))
      (try simp only [List.getElem_toArray, List.getElem_cons_zero, List.getElem_cons_succ, Act.put, List.setIfInBounds_toArray, List.set_cons_zero, List.set_cons_succ])
      refine' wpAnyH_take (i := 1) (v := _) rfl (by kernel_rfl) (by kernel_rfl) (by kernel_rfl) (fun _ _ _ h => h) (Or.inl ⟨by rfl, ?taq56⟩) (by assumption) ?tbq56
      case taq56 =>
        intro wS hSw
        (try dsimp only at hSw)
        go_simp
        (try (with_reducible rfl))
      (try simp only [List.getElem_toArray, List.getElem_cons_zero, List.getElem_cons_succ, Act.put, List.setIfInBounds_toArray, List.set_cons_zero, List.set_cons_succ])
      refine' wpAnyH_take (i := 2) (v := _) rfl (by kernel_rfl) (by kernel_rfl) (by kernel_rfl) (fun _ _ _ h => h) (Or.inl ⟨by rfl, ?taq57⟩) (by assumption) ?tbq57
      case taq57 =>
        intro wS hSw
        (try dsimp only at hSw)
        go_simp
        (try (with_reducible rfl))
      (try simp only [List.getElem_toArray, List.getElem_cons_zero, List.getElem_cons_succ, Act.put, List.setIfInBounds_toArray, List.set_cons_zero, List.set_cons_succ])
      refine' wpAnyH_take (i := 3) (v := _) rfl (by kernel_rfl) (by kernel_rfl) (by kernel_rfl) (fun _ _ _ h => h) (Or.inl ⟨by rfl, ?taq58⟩) (by assumption) ?tbq58
      case taq58 =>
        intro wS hSw
        (try dsimp only at hSw)
        go_simp
        (try (with_reducible rfl))
      (try simp only [List.getElem_toArray, List.getElem_cons_zero, List.getElem_cons_succ, Act.put, List.setIfInBounds_toArray, List.set_cons_zero, List.set_cons_succ])
      refine' wpAnyH_take (i := 4) (v := _) rfl (by kernel_rfl) (by kernel_rfl) (by kernel_rfl) (fun _ _ _ h => h) (Or.inl ⟨by rfl, ?taq59⟩) (by assumption) ?tbq59
      case taq59 =>
        intro wS hSw
        (try dsimp only at hSw)
        go_simp
        (try (with_reducible rfl))
      (try simp only [List.getElem_toArray, List.getElem_cons_zero, List.getElem_cons_succ, Act.put, List.setIfInBounds_toArray, List.set_cons_zero, List.set_cons_succ])
      refine' wpAnyH_take (i := 5) (v := _) rfl (by kernel_rfl) (by kernel_rfl) (by kernel_rfl) (fun _ _ _ h => h) (Or.inl ⟨by rfl, ?taq60⟩) (by assumption) ?tbq60
      case taq60 =>
        intro wS hSw
        (try dsimp only at hSw)
        go_simp
        (try (with_reducible rfl))
      (try simp only [List.getElem_toArray, List.getElem_cons_zero, List.getElem_cons_succ, Act.put, List.setIfInBounds_toArray, List.set_cons_zero, List.set_cons_succ])
      refine' wpAnyH_take (i := 6) (v := _) rfl (by kernel_rfl) (by kernel_rfl) (by kernel_rfl) (fun _ _ _ h => h) (Or.inl ⟨by rfl, ?taq61⟩) (by assumption) ?tbq61
      case taq61 =>
        intro wS hSw
        (try dsimp only at hSw)
        go_simp
        (try (with_reducible rfl))
      (try simp only [List.getElem_toArray, List.getElem_cons_zero, List.getElem_cons_succ, Act.put, List.setIfInBounds_toArray, List.set_cons_zero, List.set_cons_succ])
      refine' wpAnyH_take (i := 7) (v := _) rfl (by kernel_rfl) (by kernel_rfl) (by kernel_rfl) (fun _ _ _ h => h) (Or.inl ⟨by rfl, ?taq62⟩) (by assumption) ?tbq62
      case taq62 =>
        intro wS hSw
        (try dsimp only at hSw)
        go_simp
        (try (with_reducible rfl))
      (try simp only [List.getElem_toArray, List.getElem_cons_zero, List.getElem_cons_succ, Act.put, List.setIfInBounds_toArray, List.set_cons_zero, List.set_cons_succ])
      refine' wpAnyH_take (i := 8) (v := _) rfl (by kernel_rfl) (by kernel_rfl) (by kernel_rfl) (fun _ _ _ h => h) (Or.inl ⟨by rfl, ?taq63⟩) (by assumption) ?tbq63
      case taq63 =>
        intro wS hSw
        (try dsimp only at hSw)
        go_simp
        (try (with_reducible rfl))
      (try simp only [List.getElem_toArray, List.getElem_cons_zero, List.getElem_cons_succ, Act.put, List.setIfInBounds_toArray, List.set_cons_zero, List.set_cons_succ])
      refine' wpAnyH_take (i := 9) (v := _) rfl (by kernel_rfl) (by kernel_rfl) (by kernel_rfl) (fun _ _ _ h => h) (Or.inl ⟨by rfl, ?taq64⟩) (by assumption) ?tbq64
      case taq64 =>
        intro wS hSw
        (try dsimp only at hSw)
        go_simp
        (try (with_reducible rfl))
      (try simp only [List.getElem_toArray, List.getElem_cons_zero, List.getElem_cons_succ, Act.put, List.setIfInBounds_toArray, List.set_cons_zero, List.set_cons_succ])
      refine' wpAnyH_take (i := 10) (v := _) rfl (by kernel_rfl) (by kernel_rfl) (by kernel_rfl) (fun _ _ _ h => h) (Or.inl ⟨by rfl, ?taq65⟩) (by assumption) ?tbq65
      case taq65 =>
        intro wS hSw
        (try dsimp only at hSw)
        go_simp
        (try (with_reducible rfl))
      (try simp only [List.getElem_toArray, List.getElem_cons_zero, List.getElem_cons_succ, Act.put, List.setIfInBounds_toArray, List.set_cons_zero, List.set_cons_succ])
      refine' wpAnyH_take (i := 11) (v := _) rfl (by kernel_rfl) (by kernel_rfl) (by kernel_rfl) (fun _ _ _ h => h) (Or.inl ⟨by rfl, ?taq66⟩) (by assumption) ?tbq66
      case taq66 =>
        intro wS hSw
        (try dsimp only at hSw)
        go_simp
        (try (with_reducible rfl))
      (try simp only [List.getElem_toArray, List.getElem_cons_zero, List.getElem_cons_succ, Act.put, List.setIfInBounds_toArray, List.set_cons_zero, List.set_cons_succ])
      refine' wpAnyH_take (i := 12) (v := _) rfl (by kernel_rfl) (by kernel_rfl) (by kernel_rfl) (fun _ _ _ h => h) (Or.inl ⟨by rfl, ?taq67⟩) (by assumption) ?tbq67
      case taq67 =>
        intro wS hSw
        (try dsimp only at hSw)
        go_simp
        (try (with_reducible rfl))
      (try simp only [List.getElem_toArray, List.getElem_cons_zero, List.getElem_cons_succ, Act.put, List.setIfInBounds_toArray, List.set_cons_zero, List.set_cons_succ])
      refine' wpAnyH_take (i := 13) (v := _) rfl (by kernel_rfl) (by kernel_rfl) (by kernel_rfl) (fun _ _ _ h => h) (Or.inl ⟨by rfl, ?taq68⟩) (by assumption) ?tbq68
      case taq68 =>
        intro wS hSw
        (try dsimp only at hSw)
        go_simp
        (try (with_reducible rfl))
      (try simp only [List.getElem_toArray, List.getElem_cons_zero, List.getElem_cons_succ, Act.put, List.setIfInBounds_toArray, List.set_cons_zero, List.set_cons_succ])
      refine wpAnyH_ready (rs := [14]) (by kernel_rfl) (by simp) ?_
      refine AllReadyH.cons rfl (fun K9 hK9 => ?_) AllReadyH.nil
      (try simp only [List.getElem_toArray, List.getElem_cons_zero, List.getElem_cons_succ])
      go_simp
      refine (maydims_any [out, x, k, k] _ w3.drew w2.heap.size HR3.out.drew HDB.out).mono ?_
      rintro en w4 ⟨rfl, rfl⟩
      rw [ts]
      dsimp only
      refine hK9.out _ _ (⟨y0, j0, j1, j2, y4, y5⟩) (fun hHeld9 => ?_)
      clear hK9 K9
      (try simp only [List.getElem_toArray, List.getElem_cons_zero, List.getElem_cons_succ, Act.put, List.setIfInBounds_toArray, List.set_cons_zero, List.set_cons_succ])
      refine' wpAnyH_take (i := 15) (v := _) rfl (by kernel_rfl) (by kernel_rfl) (by kernel_rfl) (fun _ _ _ h => h) (Or.inl ⟨by rfl, ?taq69⟩) (by assumption) ?tbq69
      case taq69 =>
        intro wS hSw
        (try dsimp only at hSw)
        go_simp
        (try (with_reducible rfl))
      (try simp only [List.getElem_toArray, List.getElem_cons_zero, List.getElem_cons_succ, Act.put, List.setIfInBounds_toArray, List.set_cons_zero, List.set_cons_succ])
      refine' wpAnyH_take (i := 16) (v := _) rfl (by kernel_rfl) (by kernel_rfl) (by kernel_rfl) (fun _ _ _ h => h) (Or.inl ⟨by rfl, ?taq70⟩) (by assumption) ?tbq70
      case taq70 =>
        intro wS hSw
        (try dsimp only at hSw)
        go_simp
        (try (with_reducible rfl))
      (try simp only [List.getElem_toArray, List.getElem_cons_zero, List.getElem_cons_succ, Act.put, List.setIfInBounds_toArray, List.set_cons_zero, List.set_cons_succ])
      refine' wpAnyH_take (i := 17) (v := _) rfl (by kernel_rfl) (by kernel_rfl) (by kernel_rfl) (fun _ _ _ h => h) (Or.inl ⟨by rfl, ?taq71⟩) (by assumption) ?tbq71
      case taq71 =>
        intro wS hSw
        (try dsimp only at hSw)
        go_simp
        (try (with_reducible rfl))
      (try simp only [List.getElem_toArray, List.getElem_cons_zero, List.getElem_cons_succ, Act.put, List.setIfInBounds_toArray, List.set_cons_zero, List.set_cons_succ])
      refine' wpAnyH_take (i := 18) (v := _) rfl (by kernel_rfl) (by kernel_rfl) (by kernel_rfl) (fun _ _ _ h => h) (Or.inl ⟨by rfl, ?taq72⟩) (by assumption) ?tbq72
      case taq72 =>
        intro wS hSw
        (try dsimp only at hSw)
        go_simp
        (try (with_reducible rfl))
      (try simp only [List.getElem_toArray, List.getElem_cons_zero, List.getElem_cons_succ, Act.put, List.setIfInBounds_toArray, List.set_cons_zero, List.set_cons_succ])
      refine' wpAnyH_take (i := 19) (v := _) rfl (by kernel_rfl) (by kernel_rfl) (by kernel_rfl) (fun _ _ _ h => h) (Or.inl ⟨by rfl, ?taq73⟩) (by assumption) ?tbq73
      case taq73 =>
        intro wS hSw
        (try dsimp only at hSw)
        go_simp
        (try (with_reducible rfl))
      (try simp only [List.getElem_toArray, List.getElem_cons_zero, List.getElem_cons_succ, Act.put, List.setIfInBounds_toArray, List.set_cons_zero, List.set_cons_succ])
      refine' wpAnyH_take (i := 20) (v := _) rfl (by kernel_rfl) (by kernel_rfl) (by kernel_rfl) (fun _ _ _ h => h) (Or.inl ⟨by rfl, ?taq74⟩) (by assumption) ?tbq74
      case taq74 =>
        intro wS hSw
        (try dsimp only at hSw)
        go_simp
        (try (with_reducible rfl))
      (try simp only [List.getElem_toArray, List.getElem_cons_zero, List.getElem_cons_succ, Act.put, List.setIfInBounds_toArray, List.set_cons_zero, List.set_cons_succ])
      refine' wpAnyH_take (i := 21) (v := _) rfl (by kernel_rfl) (by kernel_rfl) (by kernel_rfl) (fun _ _ _ h => h) (Or.inr ⟨by rfl, rfl⟩) (by assumption) ?tbq75
      (try simp only [List.getElem_toArray, List.getElem_cons_zero, List.getElem_cons_succ, Act.put, List.setIfInBounds_toArray, List.set_cons_zero, List.set_cons_succ])
      refine' wpAnyH_take (i := 22) (v := _) rfl (by kernel_rfl) (by kernel_rfl) (by kernel_rfl) (fun _ _ _ h => h) (Or.inr ⟨by rfl, rfl⟩) (by assumption) ?tbq76
      (try simp only [List.getElem_toArray, List.getElem_cons_zero, List.getElem_cons_succ, Act.put, List.setIfInBounds_toArray, List.set_cons_zero, List.set_cons_succ])
      refine' wpAnyH_take (i := 23) (v := _) rfl (by kernel_rfl) (by kernel_rfl) (by kernel_rfl) (fun _ _ _ h => h) (Or.inr ⟨by rfl, rfl⟩) (by assumption) ?tbq77
      (try simp only [List.getElem_toArray, List.getElem_cons_zero, List.getElem_cons_succ, Act.put, List.setIfInBounds_toArray, List.set_cons_zero, List.set_cons_succ])
      refine' wpAnyH_take (i := 24) (v := _) rfl (by kernel_rfl) (by kernel_rfl) (by kernel_rfl) (fun _ _ _ h => h) (Or.inl ⟨by rfl, ?taq78⟩) (by assumption) ?tbq78
      case taq78 =>
        intro wS hSw
        (try dsimp only at hSw)
        go_simp
        (try (with_reducible rfl))
      (try simp only [List.getElem_toArray, List.getElem_cons_zero, List.getElem_cons_succ, Act.put, List.setIfInBounds_toArray, List.set_cons_zero, List.set_cons_succ])
      refine' wpAnyH_take (i := 25) (v := _) rfl (by kernel_rfl) (by kernel_rfl) (by kernel_rfl) (fun _ _ _ h => h) (Or.inl ⟨by rfl, ?taq79⟩) (by assumption) ?tbq79
      case taq79 =>
        intro wS hSw
        (try dsimp only at hSw)
        go_simp
        (try (with_reducible rfl))
      (try simp only [List.getElem_toArray, List.getElem_cons_zero, List.getElem_cons_succ, Act.put, List.setIfInBounds_toArray, List.set_cons_zero, List.set_cons_succ])
      refine' wpAnyH_take (i := 26) (v := _) rfl (by kernel_rfl) (by kernel_rfl) (by kernel_rfl) (fun _ _ _ h => h) (Or.inl ⟨by rfl, ?taq80⟩) (by assumption) ?tbq80
      case taq80 =>
        intro wS hSw
        (try dsimp only at hSw)
        go_simp
        (try (with_reducible rfl))
      (try simp only [List.getElem_toArray, List.getElem_cons_zero, List.getElem_cons_succ, Act.put, List.setIfInBounds_toArray, List.set_cons_zero, List.set_cons_succ])
      refine' wpAnyH_take (i := 27) (v := _) rfl (by kernel_rfl) (by kernel_rfl) (by kernel_rfl) (fun _ _ _ h => h) (Or.inl ⟨by rfl, ?taq81⟩) (by assumption) ?tbq81
      case taq81 =>
        intro wS hSw
        (try dsimp only at hSw)
        go_simp
        (try (with_reducible rfl))
      (try simp only [List.getElem_toArray, List.getElem_cons_zero, List.getElem_cons_succ, Act.put, List.setIfInBounds_toArray, List.set_cons_zero, List.set_cons_succ])
      refine' wpAnyH_take (i := 28) (v := _) rfl (by kernel_rfl) (by kernel_rfl) (by kernel_rfl) (fun _ _ _ h => h) (Or.inl ⟨by rfl, ?taq82⟩) (by assumption) ?tbq82
      case taq82 =>
        intro wS hSw
        (try dsimp only at hSw)
        go_simp
        (try (with_reducible rfl))
      (try simp only [List.getElem_toArray, List.getElem_cons_zero, List.getElem_cons_succ, Act.put, List.setIfInBounds_toArray, List.set_cons_zero, List.set_cons_succ])
      refine' wpAnyH_take (i := 29) (v := _) rfl (by kernel_rfl) (by kernel_rfl) (by kernel_rfl) (fun _ _ _ h => h) (Or.inl ⟨by rfl, ?taq83⟩) (by assumption) ?tbq83
      case taq83 =>
        intro wS hSw
        (try dsimp only at hSw)
        go_simp
        (try (with_reducible rfl))
      (try simp only [List.getElem_toArray, List.getElem_cons_zero, List.getElem_cons_succ, Act.put, List.setIfInBounds_toArray, List.set_cons_zero, List.set_cons_succ])
      refine' wpAnyH_take (i := 30) (v := _) rfl (by kernel_rfl) (by kernel_rfl) (by kernel_rfl) (fun _ _ _ h => h) (Or.inl ⟨by rfl, ?taq84⟩) (by assumption) ?tbq84
      case taq84 =>
        intro wS hSw
        (try dsimp only at hSw)
        go_simp
        (try (with_reducible rfl))
      (try simp only [List.getElem_toArray, List.getElem_cons_zero, List.getElem_cons_succ, Act.put, List.setIfInBounds_toArray, List.set_cons_zero, List.set_cons_succ])
      refine' wpAnyH_take (i := 31) (v := _) rfl (by kernel_rfl) (by kernel_rfl) (by kernel_rfl) (fun _ _ _ h => h) (Or.inl ⟨by rfl, ?taq85⟩) (by assumption) ?tbq85
      case taq85 =>
        intro wS hSw
        (try dsimp only at hSw)
        go_simp
        (try (with_reducible rfl))
      (try simp only [List.getElem_toArray, List.getElem_cons_zero, List.getElem_cons_succ, Act.put, List.setIfInBounds_toArray, List.set_cons_zero, List.set_cons_succ])
      refine' wpAnyH_take (i := 32) (v := _) rfl (by kernel_rfl) (by kernel_rfl) (by kernel_rfl) (fun _ _ _ h => h) (Or.inl ⟨by rfl, ?taq86⟩) (by assumption) ?tbq86
      case taq86 =>
        intro wS hSw
        (try dsimp only at hSw)
        go_simp
        (try (with_reducible rfl))
      (try simp only [List.getElem_toArray, List.getElem_cons_zero, List.getElem_cons_succ, Act.put, List.setIfInBounds_toArray, List.set_cons_zero, List.set_cons_succ])
      refine' wpAnyH_take (i := 33) (v := _) rfl (by kernel_rfl) (by kernel_rfl) (by kernel_rfl) (fun _ _ _ h => h) (Or.inl ⟨by rfl, ?taq87⟩) (by assumption) ?tbq87
      case taq87 =>
        intro wS hSw
        (try dsimp only at hSw)
        go_simp
        (try (with_reducible rfl))
      (try simp only [List.getElem_toArray, List.getElem_cons_zero, List.getElem_cons_succ, Act.put, List.setIfInBounds_toArray, List.set_cons_zero, List.set_cons_succ])
      refine' wpAnyH_take (i := 34) (v := _) rfl (by kernel_rfl) (by kernel_rfl) (by kernel_rfl) (fun _ _ _ h => h) (Or.inl ⟨by rfl, ?taq88⟩) (by assumption) ?tbq88
      case taq88 =>
        intro wS hSw
        (try dsimp only at hSw)
        go_simp
        (try (with_reducible rfl))
      (try simp only [List.getElem_toArray, List.getElem_cons_zero, List.getElem_cons_succ, Act.put, List.setIfInBounds_toArray, List.set_cons_zero, List.set_cons_succ])
      refine' wpAnyH_take (i := 35) (v := _) rfl (by kernel_rfl) (by kernel_rfl) (by kernel_rfl) (fun _ _ _ h => h) (Or.inl ⟨by rfl, ?taq89⟩) (by assumption) ?tbq89
      case taq89 =>
        intro wS hSw
        (try dsimp only at hSw)
        go_simp
        (try (with_reducible rfl))
      (try simp only [List.getElem_toArray, List.getElem_cons_zero, List.getElem_cons_succ, Act.put, List.setIfInBounds_toArray, List.set_cons_zero, List.set_cons_succ])
      refine' wpAnyH_take (i := 36) (v := _) rfl (by kernel_rfl) (by kernel_rfl) (by kernel_rfl) (fun _ _ _ h => h) (Or.inl ⟨by rfl, ?taq90⟩) (by assumption) ?tbq90
      case taq90 =>
        intro wS hSw
        (try dsimp only at hSw)
        go_simp
        (try (with_reducible rfl))
      (try simp only [List.getElem_toArray, List.getElem_cons_zero, List.getElem_cons_succ, Act.put, List.setIfInBounds_toArray, List.set_cons_zero, List.set_cons_succ])
      refine' wpAnyH_take (i := 37) (v := _) rfl (by kernel_rfl) (by kernel_rfl) (by kernel_rfl) (fun _ _ _ h => h) (Or.inl ⟨by rfl, ?taq91⟩) (by assumption) ?tbq91
      case taq91 =>
        intro wS hSw
        (try dsimp only at hSw)
        go_simp
        (try (with_reducible rfl))
      (try simp only [List.getElem_toArray, List.getElem_cons_zero, List.getElem_cons_succ, Act.put, List.setIfInBounds_toArray, List.set_cons_zero, List.set_cons_succ])
      refine' wpAnyH_take (i := 38) (v := _) rfl (by kernel_rfl) (by kernel_rfl) (by kernel_rfl) (fun _ _ _ h => h) (Or.inl ⟨by rfl, ?taq92⟩) (by assumption) ?tbq92
      case taq92 =>
        intro wS hSw
        (try dsimp only at hSw)
        go_simp
        (try (with_reducible rfl))
      (try simp only [List.getElem_toArray, List.getElem_cons_zero, List.getElem_cons_succ, Act.put, List.setIfInBounds_toArray, List.set_cons_zero, List.set_cons_succ])
      refine' wpAnyH_take (i := 39) (v := _) rfl (by kernel_rfl) (by kernel_rfl) (by kernel_rfl) (fun _ _ _ h => h) (Or.inl ⟨by rfl, ?taq93⟩) (by assumption) ?tbq93
      case taq93 =>
        intro wS hSw
        (try dsimp only at hSw)
        go_simp
        (try (with_reducible rfl))
      (try simp only [List.getElem_toArray, List.getElem_cons_zero, List.getElem_cons_succ, Act.put, List.setIfInBounds_toArray, List.set_cons_zero, List.set_cons_succ])
      refine' wpAnyH_take (i := 40) (v := _) rfl (by kernel_rfl) (by kernel_rfl) (by kernel_rfl) (fun _ _ _ h => h) (Or.inl ⟨by rfl, ?taq94⟩) (by assumption) ?tbq94
      case taq94 =>
        intro wS hSw
        (try dsimp only at hSw)
        go_simp
        (try (with_reducible rfl))
      (try simp only [List.getElem_toArray, List.getElem_cons_zero, List.getElem_cons_succ, Act.put, List.setIfInBounds_toArray, List.set_cons_zero, List.set_cons_succ])
      refine' wpAnyH_take (i := 41) (v := _) rfl (by kernel_rfl) (by kernel_rfl) (by kernel_rfl) (fun _ _ _ h => h) (Or.inl ⟨by rfl, ?taq95⟩) (by assumption) ?tbq95
      case taq95 =>
        intro wS hSw
        (try dsimp only at hSw)
        go_simp
        (try (with_reducible rfl))
      (try simp only [List.getElem_toArray, List.getElem_cons_zero, List.getElem_cons_succ, Act.put, List.setIfInBounds_toArray, List.set_cons_zero, List.set_cons_succ])
      refine' wpAnyH_take (i := 42) (v := _) rfl (by kernel_rfl) (by kernel_rfl) (by kernel_rfl) (fun _ _ _ h => h) (Or.inl ⟨by rfl, ?taq96⟩) (by assumption) ?tbq96
      case taq96 =>
        intro wS hSw
        (try dsimp only at hSw)
        go_simp
        (try (with_reducible rfl))
      (try simp only [List.getElem_toArray, List.getElem_cons_zero, List.getElem_cons_succ, Act.put, List.setIfInBounds_toArray, List.set_cons_zero, List.set_cons_succ])
      refine' wpAnyH_take (i := 43) (v := _) rfl (by kernel_rfl) (by kernel_rfl) (by kernel_rfl) (fun _ _ _ h => h) (Or.inl ⟨by rfl, ?taq97⟩) (by assumption) ?tbq97
      case taq97 =>
        intro wS hSw
        (try dsimp only at hSw)
        go_simp
        (try (with_reducible rfl))
      (try simp only [List.getElem_toArray, List.getElem_cons_zero, List.getElem_cons_succ, Act.put, List.setIfInBounds_toArray, List.set_cons_zero, List.set_cons_succ])
      refine' wpAnyH_take (i := 44) (v := _) rfl (by kernel_rfl) (by kernel_rfl) (by kernel_rfl) (fun _ _ _ h => h) (Or.inl ⟨by rfl, ?taq98⟩) (by assumption) ?tbq98
      case taq98 =>
        intro wS hSw
        (try dsimp only at hSw)
        go_simp
        (try (with_reducible rfl))
      (try simp only [List.getElem_toArray, List.getElem_cons_zero, List.getElem_cons_succ, Act.put, List.setIfInBounds_toArray, List.set_cons_zero, List.set_cons_succ])
      refine' wpAnyH_take (i := 45) (v := _) rfl (by kernel_rfl) (by kernel_rfl) (by kernel_rfl) (fun _ _ _ h => h) (Or.inl ⟨by rfl, ?taq99⟩) (by assumption) ?tbq99
      case taq99 =>
        intro wS hSw
        (try dsimp only at hSw)
        go_simp
        (try (with_reducible rfl))
      (try simp only [List.getElem_toArray, List.getElem_cons_zero, List.getElem_cons_succ, Act.put, List.setIfInBounds_toArray, List.set_cons_zero, List.set_cons_succ])
      refine' wpAnyH_take (i := 46) (v := _) rfl (by kernel_rfl) (by kernel_rfl) (by kernel_rfl) (fun _ _ _ h => h) (Or.inl ⟨by rfl, ?taq100⟩) (by assumption) ?tbq100
      case taq100 =>
        intro wS hSw
        (try dsimp only at hSw)
        go_simp
        (try (with_reducible rfl))
      (try simp only [List.getElem_toArray, List.getElem_cons_zero, List.getElem_cons_succ, Act.put, List.setIfInBounds_toArray, List.set_cons_zero, List.set_cons_succ])
      refine' wpAnyH_take (i := 47) (v := _) rfl (by kernel_rfl) (by kernel_rfl) (by kernel_rfl) (fun _ _ _ h => h) (Or.inl ⟨by rfl, ?taq101⟩) (by assumption) ?tbq101
      case taq101 =>
        intro wS hSw
        (try dsimp only at hSw)
        go_simp
        (try (with_reducible rfl))
      (try simp only [List.getElem_toArray, List.getElem_cons_zero, List.getElem_cons_succ, Act.put, List.setIfInBounds_toArray, List.set_cons_zero, List.set_cons_succ])
      refine' wpAnyH_take (i := 48) (v := _) rfl (by kernel_rfl) (by kernel_rfl) (by kernel_rfl) (fun _ _ _ h => h) (Or.inl ⟨by rfl, ?taq102⟩) (by assumption) ?tbq102
      case taq102 =>
        intro wS hSw
        (try dsimp only at hSw)
        go_simp
        (try (with_reducible rfl))
      (try simp only [List.getElem_toArray, List.getElem_cons_zero, List.getElem_cons_succ, Act.put, List.setIfInBounds_toArray, List.set_cons_zero, List.set_cons_succ])
      refine' wpAnyH_take (i := 49) (v := _) rfl (by kernel_rfl) (by kernel_rfl) (by kernel_rfl) (fun _ _ _ h => h) (Or.inl ⟨by rfl, ?taq103⟩) (by assumption) ?tbq103
      case taq103 =>
        intro wS hSw
        (try dsimp only at hSw)
        go_simp
        (try (with_reducible rfl))
      (try simp only [List.getElem_toArray, List.getElem_cons_zero, List.getElem_cons_succ, Act.put, List.setIfInBounds_toArray, List.set_cons_zero, List.set_cons_succ])
      refine' wpAnyH_take (i := 50) (v := _) rfl (by kernel_rfl) (by kernel_rfl) (by kernel_rfl) (fun _ _ _ h => h) (Or.inl ⟨by rfl, ?taq104⟩) (by assumption) ?tbq104
      case taq104 =>
        intro wS hSw
        (try dsimp only at hSw)
        go_simp
        (try (with_reducible rfl))
      (try simp only [List.getElem_toArray, List.getElem_cons_zero, List.getElem_cons_succ, Act.put, List.setIfInBounds_toArray, List.set_cons_zero, List.set_cons_succ])
      refine' wpAnyH_take (i := 51) (v := _) rfl (by kernel_rfl) (by kernel_rfl) (by kernel_rfl) (fun _ _ _ h => h) (Or.inl ⟨by rfl, ?taq105⟩) (by assumption) ?tbq105
      case taq105 =>
        intro wS hSw
        (try dsimp only at hSw)
        go_simp
        (try (with_reducible rfl))
      (try simp only [List.getElem_toArray, List.getElem_cons_zero, List.getElem_cons_succ, Act.put, List.setIfInBounds_toArray, List.set_cons_zero, List.set_cons_succ])
      refine' wpAnyH_take (i := 52) (v := _) rfl (by kernel_rfl) (by kernel_rfl) (by kernel_rfl) (fun _ _ _ h => h) (Or.inl ⟨by rfl, ?taq106⟩) (by assumption) ?tbq106
      case taq106 =>
        intro wS hSw
        (try dsimp only at hSw)
        go_simp
        (try (with_reducible rfl))
      (try simp only [List.getElem_toArray, List.getElem_cons_zero, List.getElem_cons_succ, Act.put, List.setIfInBounds_toArray, List.set_cons_zero, List.set_cons_succ])
      refine wpAnyH_ready (rs := [53]) (by kernel_rfl) (by simp) ?_
      refine AllReadyH.cons rfl (fun K9 hK9 => ?_) AllReadyH.nil
      (try simp only [List.getElem_toArray, List.getElem_cons_zero, List.getElem_cons_succ])
      go_simp
      refine (awake17_any _).mono ?_
      rintro en w5 ⟨rfl, hb5⟩
      have HB5 := Lib.hid (HB3.out.trans (((Below.refl w3.heap.size w3).drew.trans hb5).mono HB3.out.size))
      have hcc := fun (p : Addr) (hp : p.block < w3.heap.size) => hb5.cell (p := p) hp
      have z0 := (hcc ⟨gq, oq, none⟩ (by show gq < w3.heap.size; omega)).trans y0
      have z1 := (hcc ⟨w2.heap.size, 0, none⟩ (by show w2.heap.size < w3.heap.size; omega)).trans j0
      have z2 := (hcc ⟨w2.heap.size, 1, none⟩ (by show w2.heap.size < w3.heap.size; omega)).trans j1
      have z3 := (hcc ⟨w2.heap.size, 2, none⟩ (by show w2.heap.size < w3.heap.size; omega)).trans j2
      have z4 := (hcc ⟨gq, oq + 2, none⟩ (by show gq < w3.heap.size; omega)).trans y4
      have z5 := (hcc ⟨gq, oq + 3, none⟩ (by show gq < w3.heap.size; omega)).trans y5
      clear hb5 hcc
      dsimp only
      refine hK9.out _ _ (⟨z0, z1, z2, z3, z4, z5⟩) (fun hHeld9 => ?_)
      clear hK9 K9
      (try simp only [List.getElem_toArray, List.getElem_cons_zero, List.getElem_cons_succ, Act.put, List.setIfInBounds_toArray, List.set_cons_zero, List.set_cons_succ])
      refine' wpAnyH_take (i := 54) (v := _) rfl (by kernel_rfl) (by kernel_rfl) (by kernel_rfl) (fun _ _ _ h => h) (Or.inl ⟨by rfl, ?taq107⟩) (by assumption) ?tbq107
      case taq107 =>
        intro wS hSw
        (try dsimp only at hSw)
        go_simp
        (try (with_reducible rfl))
      (try simp only [List.getElem_toArray, List.getElem_cons_zero, List.getElem_cons_succ, Act.put, List.setIfInBounds_toArray, List.set_cons_zero, List.set_cons_succ])
      refine' wpAnyH_take (i := 55) (v := _) rfl (by kernel_rfl) (by kernel_rfl) (by kernel_rfl) (fun _ _ _ h => h) (Or.inl ⟨by rfl, ?taq108⟩) (by assumption) ?tbq108
      case taq108 =>
        intro wS hSw
        (try dsimp only at hSw)
        go_simp
        (try (with_reducible rfl))
      (try simp only [List.getElem_toArray, List.getElem_cons_zero, List.getElem_cons_succ, Act.put, List.setIfInBounds_toArray, List.set_cons_zero, List.set_cons_succ])
      refine wpAnyH_done (by kernel_rfl) ?_ _
      go_wp2_with fail
      go_ret
      exact ⟨rfl, HB5.out⟩
end Go.Proofs.Ytkileiikffomlaa
