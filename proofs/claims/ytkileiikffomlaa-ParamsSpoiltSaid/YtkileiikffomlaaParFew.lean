/- Contracts of the reference's Dims, of pedagoguelaw17.few. -/
import Derived.Test.YtkileiikffomlaaParDims
import Derived.Test.YtkileiikffomlaaNetRShapes
import Derived.Test.YtkileiikffomlaaNetRDims
namespace Go.Proofs.Ytkileiikffomlaa
open Go.RowKit
set_option linter.unusedVariables false
set_option linter.unusedSimpArgs false

theorem Summed.noR {w w' : World} (h : Below w.heap.size w w') : Summed w [] 0 (.returned (.tuple #[.slice none 0 0, .int .i64 0])) w' := ⟨none, 0, rfl, Reads.nil_ _ _, h⟩
set_option maxHeartbeats 3200000 in
set_option maxRecDepth 100000 in
theorem rpdims_any (a b c : Int) (v : Value) (ls : List LayV) (layer : Int) (w : World) (B : Nat) (hB : B ≤ w.heap.size) (h : LaysOf w B v ls) (r : List Int × Int) (hr : pdimsI a b c ls layer = r) :
    Calls Try.prog 45 #[.agg #[.int .i64 a, .int .i64 b, .int .i64 c, v], .int .i64 layer] w (Summed w r.1 r.2) := by
  subst hr
  obtain ⟨A, cc, rfl⟩ := h.form
  have hlen := h.len
  have HL := Lib.hid h
  have hb0 := net_one w (.cells #[.int .i64 a, .int .i64 b, .int .i64 c, .slice A ls.length cc] 25)
  have HB0 := Lib.hid hb0
  have hsz : w.heap.size < (w.alloc (.cells #[.int .i64 a, .int .i64 b, .int .i64 c, .slice A ls.length cc] 25)).heap.size := by simp
  have KB := Lib.hid (Blk.fresh w 25 [.int .i64 a, .int .i64 b, .int .i64 c, .slice A ls.length cc])
  have HSH : Hid (∀ res, shapesM a b c ls = res → Calls Try.prog 13 #[.agg #[.int .i64 a, .int .i64 b, .int .i64 c, .slice A ls.length cc]] (w.alloc (.cells #[.int .i64 a, .int .i64 b, .int .i64 c, .slice A ls.length cc] 25)) (Shaped (w.alloc (.cells #[.int .i64 a, .int .i64 b, .int .i64 c, .slice A ls.length cc] 25)) res)) :=
    Lib.hid (fun res hres => rshapesN_any a b c _ ls _ B (by omega) (HL.out.below (HB0.out.mono hB)) res hres)
  clear h hb0
  rcases shapesM_cases a b c ls with ⟨hs, hm⟩ | ⟨n, hs, hn1, hn2, hm⟩ | ⟨all, hs, hok⟩
  · have HC := Lib.hid (HSH.out _ hs)
    have HW : Hid (pdimsI a b c ls layer = ([], 0)) := Lib.hid (by unfold pdimsI; rw [hs]; simp)
    clear hs hm
    go_enter Try.func45, Try.ntmps45
    go_wp2_with fail
    refine HC.out.mono ?_
    rintro en w2 ⟨A2, c2, rfl, hrows, hb2⟩
    have HB2 := Lib.hid (HB0.out.trans (hb2.mono (by omega)))
    clear hb2 hrows
    dsimp only
    go_wp2
    refine bodyPost_ret (v := .tuple #[.slice none 0 0, .int .i64 0]) (by simp [results, Try.results45, go_sem]) rfl ?_
    rw [HW.out]
    exact Summed.noR HB2.out
  · have HC := Lib.hid (HSH.out _ hs)
    have HW : Hid (pdimsI a b c ls layer = ([], 0)) := Lib.hid (by unfold pdimsI; rw [hs]; simp)
    clear hs hm
    go_enter Try.func45, Try.ntmps45
    go_wp2_with fail
    refine HC.out.mono ?_
    rintro en w2 ⟨A2, c2, rfl, hrows, hb2⟩
    have HB2 := Lib.hid (HB0.out.trans (hb2.mono (by omega)))
    clear hb2 hrows
    dsimp only
    go_wp2
    refine bodyPost_ret (v := .tuple #[.slice none 0 0, .int .i64 0]) (by simp [results, Try.results45, go_sem]) rfl ?_
    rw [HW.out]
    exact Summed.noR HB2.out
  · have HC := Lib.hid (HSH.out _ hs)
    have HML := Lib.hid hok.len
    have HOK := Lib.hid hok
    have HSE := Lib.hid hs
    by_cases hr : 1 ≤ layer ∧ layer ≤ ls.length
    · obtain ⟨m, rfl⟩ : ∃ m : Nat, layer = (m : Int) + 1 := ⟨(layer - 1).toNat, by omega⟩
      obtain ⟨hr1, hr2⟩ := hr
      have hm : m < ls.length := by omega
      have hml := hok.len
      obtain ⟨d, hd⟩ : ∃ d, all[m]? = some d := ⟨all[m]'(by omega), List.getElem?_eq_getElem (by omega)⟩
      have hgd := Lib.hid (hok.good m d hd)
      have HD := Lib.hid hd
      have t1 : decide ((m : Int) + 1 < 1) = false := decide_eq_false (by omega)
      have t2 : decide ((ls.length : Int) < (m : Int) + 1) = false := decide_eq_false (by omega)
      have hw1 : IntKind.i64.wrap (m : Int) = (m : Int) := IntWalk.i64_in _ (by omega)
      have i0 : 0 ≤ (m : Int) := by omega
      have i1 : (m : Int) < (ls.length : Int) := by omega
      have i2 : (m : Int) < (ls.length : Int) + 1 := by omega
      clear hs hok hml hd hr1 hr2
      go_enter Try.func45, Try.ntmps45
      go_wp2_with fail
      refine HC.out.mono ?_
      rintro en w2 ⟨A2, c2, rfl, hrows, hb2⟩
      have HB2 := Lib.hid (HB0.out.trans (hb2.mono (by omega)))
      have K2 := KB.out.below hb2 hsz
      dsimp only at hrows ⊢
      obtain ⟨gr, og, c3, A3, c4, e1, hgr, hcl1, hrl⟩ := hrows.at_ HD.out
      injection e1 with e1 _ e3
      subst e1 e3
      rw [HML.out]
      have hL2 := HL.out.below (HB2.out.mono hB)
      obtain ⟨gl, ol, cl, l, e2, hll, hlok, hgl, q0, q1, q2, q3, q4, q5, q6⟩ := hL2.at_ hm
      injection e2 with e2 _ e4
      subst e2 e4
      obtain ⟨kd, out, k, st, pd, fr, fz⟩ := l
      dsimp only at q0 q1 q2 q3 q4 q5 q6
      have HLL := Lib.hid hll
      have HLO := Lib.hid hlok
      have HW : Hid (pdimsI a b c ls ((m : Int) + 1) = if 0 < sizeI (dimsI ⟨kd, out, k, st, pd, fr, fz⟩ d).1 then dimsI ⟨kd, out, k, st, pd, fr, fz⟩ d else ([], 0)) := Lib.hid (by
        unfold pdimsI
        rw [HSE.out]
        have h1 : ((m : Int) + 1 - 1).toNat = m := by omega
        simp only [h1, List.getD_eq_getElem?_getD, HLL.out, HD.out, Option.getD_some]
        rw [if_pos ⟨trivial, by omega, by omega⟩])
      obtain ⟨q, hq⟩ : ∃ q, dimsI ⟨kd, out, k, st, pd, fr, fz⟩ d = q := ⟨_, rfl⟩
      have HQB : Hid (∀ x ∈ q.1, -9223372036854775808 ≤ x ∧ x ≤ 9223372036854775807) := Lib.hid (by
        rw [← hq]
        obtain ⟨y0, y1, y2, y3, y4, y5⟩ := HLO.out
        simp only [inW] at y0 y1 y2 y3 y4 y5
        have hx : -9223372036854775808 ≤ d.headD 0 ∧ d.headD 0 ≤ 9223372036854775807 := by
          cases d with
          | nil => simp
          | cons x d => have := hgd.out.bd x (by simp); show -9223372036854775808 ≤ x ∧ x ≤ 9223372036854775807; exact ⟨by omega, by omega⟩
        intro x hx2
        unfold dimsI at hx2
        simp only at hx2
        split at hx2
        · simp only [List.mem_cons, List.not_mem_nil, or_false] at hx2; rcases hx2 with rfl | rfl <;> omega
        · split at hx2
          · simp only [List.mem_cons, List.not_mem_nil, or_false] at hx2; rcases hx2 with rfl | rfl | rfl | rfl <;> omega
          · simp at hx2)
      have HCO : Hid (Calls Try.prog 36 #[.agg #[.int .i64 kd, .int .i64 out, .int .i64 k, .int .i64 st, .int .i64 pd, .int .i64 fr, .bool fz], .slice A3 d.length c4] w2.drew (Summed w2.drew q.1 q.2)) :=
        Lib.hid (rdims_any kd out k st pd fr fz d _ w2.drew w2.heap.size (Nat.le_refl _) hrl hgd.out q hq)
      have HQ := Lib.hid hq
      obtain ⟨qd, qn⟩ := q
      dsimp only at HQB HCO
      have k0 := K2.cell 0
      have k1 := K2.cell 1
      have k2 := K2.cell 2
      have k3 := K2.cell 3
      simp only [List.getElem?_cons_zero, List.getElem?_cons_succ] at k0 k1 k2 k3
      have hw2 := K2.lt
      have hgl2 : gl < w2.heap.size := by have := HB2.out.size; omega
      clear hb2 hrows hrl hL2 hll hlok hq
      go_wp2_with fail
      refine wp_region_held_drew (S := ((fun w' => w'.cell? ⟨w.heap.size, 0, none⟩ = some (.int .i64 a) ∧ w'.cell? ⟨w.heap.size, 1, none⟩ = some (.int .i64 b) ∧ w'.cell? ⟨w.heap.size, 2, none⟩ = some (.int .i64 c) ∧ w'.cell? ⟨w.heap.size, 3, none⟩ = some (.slice (some ⟨gl, ol, none⟩) ls.length cc) ∧ w'.cell? ⟨gr, og + m, none⟩ = some (.slice A3 d.length c4) ∧ w'.cell? ⟨gl, ol + m * 7, none⟩ = some (.int .i64 kd) ∧ w'.cell? ⟨gl, ol + m * 7 + 1, none⟩ = some (.int .i64 out) ∧ w'.cell? ⟨gl, ol + m * 7 + 2, none⟩ = some (.int .i64 k) ∧ w'.cell? ⟨gl, ol + m * 7 + 3, none⟩ = some (.int .i64 st) ∧ w'.cell? ⟨gl, ol + m * 7 + 4, none⟩ = some (.int .i64 pd) ∧ w'.cell? ⟨gl, ol + m * 7 + 5, none⟩ = some (.int .i64 fr) ∧ w'.cell? ⟨gl, ol + m * 7 + 6, none⟩ = some (.bool fz)))) (by kernel_rfl) (⟨k0, k1, k2, k3, hcl1, q0, q1, q2, q3, q4, q5, q6⟩) (fun hHeld => ?_)
      refine' wpAnyH_take (i := 0) (v := _) rfl (by kernel_rfl) (by kernel_rfl) (by kernel_rfl) (fun _ _ _ h => h) (Or.inl ⟨by rfl, ?taq44⟩) (by assumption) ?tbq44
      case taq44 =>
        intro wS hSw
        (try dsimp only at hSw)
        go_simp
        (try (with_reducible rfl))
      (try simp only [List.getElem_toArray, List.getElem_cons_zero, List.getElem_cons_succ, Act.put, List.setIfInBounds_toArray, List.set_cons_zero, List.set_cons_succ])
      refine' wpAnyH_take (i := 1) (v := _) rfl (by kernel_rfl) (by kernel_rfl) (by kernel_rfl) (fun _ _ _ h => h) (Or.inl ⟨by rfl, ?taq45⟩) (by assumption) ?tbq45
      case taq45 =>
        intro wS hSw
        (try dsimp only at hSw)
        go_simp
        (try (with_reducible rfl))
      (try simp only [List.getElem_toArray, List.getElem_cons_zero, List.getElem_cons_succ, Act.put, List.setIfInBounds_toArray, List.set_cons_zero, List.set_cons_succ])
      refine' wpAnyH_take (i := 2) (v := _) rfl (by kernel_rfl) (by kernel_rfl) (by kernel_rfl) (fun _ _ _ h => h) (Or.inl ⟨by rfl, ?taq46⟩) (by assumption) ?tbq46
      case taq46 =>
        intro wS hSw
        (try dsimp only at hSw)
        go_simp
        (try (with_reducible rfl))
      (try simp only [List.getElem_toArray, List.getElem_cons_zero, List.getElem_cons_succ, Act.put, List.setIfInBounds_toArray, List.set_cons_zero, List.set_cons_succ])
      refine' wpAnyH_take (i := 3) (v := _) rfl (by kernel_rfl) (by kernel_rfl) (by kernel_rfl) (fun _ _ _ h => h) (Or.inl ⟨by rfl, ?taq47⟩) (by assumption) ?tbq47
      case taq47 =>
        intro wS hSw
        (try dsimp only at hSw)
        go_simp
        (try (with_reducible rfl))
      (try simp only [List.getElem_toArray, List.getElem_cons_zero, List.getElem_cons_succ, Act.put, List.setIfInBounds_toArray, List.set_cons_zero, List.set_cons_succ])
      refine' wpAnyH_take (i := 4) (v := _) rfl (by kernel_rfl) (by kernel_rfl) (by kernel_rfl) (fun _ _ _ h => h) (Or.inl ⟨by rfl, ?taq48⟩) (by assumption) ?tbq48
      case taq48 =>
        intro wS hSw
        (try dsimp only at hSw)
        go_simp
        (try (with_reducible rfl))
      (try simp only [List.getElem_toArray, List.getElem_cons_zero, List.getElem_cons_succ, Act.put, List.setIfInBounds_toArray, List.set_cons_zero, List.set_cons_succ])
      refine' wpAnyH_take (i := 5) (v := _) rfl (by kernel_rfl) (by kernel_rfl) (by kernel_rfl) (fun _ _ _ h => h) (Or.inl ⟨by rfl, ?taq49⟩) (by assumption) ?tbq49
      case taq49 =>
        intro wS hSw
        (try dsimp only at hSw)
        go_simp
        (try (with_reducible rfl))
      (try simp only [List.getElem_toArray, List.getElem_cons_zero, List.getElem_cons_succ, Act.put, List.setIfInBounds_toArray, List.set_cons_zero, List.set_cons_succ])
      refine' wpAnyH_take (i := 6) (v := _) rfl (by kernel_rfl) (by kernel_rfl) (by kernel_rfl) (fun _ _ _ h => h) (Or.inl ⟨by rfl, ?taq50⟩) (by assumption) ?tbq50
      case taq50 =>
        intro wS hSw
        (try dsimp only at hSw)
        go_simp
        (try (with_reducible rfl))
      (try simp only [List.getElem_toArray, List.getElem_cons_zero, List.getElem_cons_succ, Act.put, List.setIfInBounds_toArray, List.set_cons_zero, List.set_cons_succ])
      refine' wpAnyH_take (i := 7) (v := _) rfl (by kernel_rfl) (by kernel_rfl) (by kernel_rfl) (fun _ _ _ h => h) (Or.inl ⟨by rfl, ?taq51⟩) (by assumption) ?tbq51
      case taq51 =>
        intro wS hSw
        (try dsimp only at hSw)
        go_simp
        (try (with_reducible rfl))
      (try simp only [List.getElem_toArray, List.getElem_cons_zero, List.getElem_cons_succ, Act.put, List.setIfInBounds_toArray, List.set_cons_zero, List.set_cons_succ])
      refine' wpAnyH_take (i := 8) (v := _) rfl (by kernel_rfl) (by kernel_rfl) (by kernel_rfl) (fun _ _ _ h => h) (Or.inl ⟨by rfl, ?taq52⟩) (by assumption) ?tbq52
      case taq52 =>
        intro wS hSw
        (try dsimp only at hSw)
        go_simp
        (try (with_reducible rfl))
      (try simp only [List.getElem_toArray, List.getElem_cons_zero, List.getElem_cons_succ, Act.put, List.setIfInBounds_toArray, List.set_cons_zero, List.set_cons_succ])
      refine' wpAnyH_take (i := 9) (v := _) rfl (by kernel_rfl) (by kernel_rfl) (by kernel_rfl) (fun _ _ _ h => h) (Or.inl ⟨by rfl, ?taq53⟩) (by assumption) ?tbq53
      case taq53 =>
        intro wS hSw
        (try dsimp only at hSw)
        go_simp
        (try (with_reducible rfl))
      (try simp only [List.getElem_toArray, List.getElem_cons_zero, List.getElem_cons_succ, Act.put, List.setIfInBounds_toArray, List.set_cons_zero, List.set_cons_succ])
      refine' wpAnyH_take (i := 10) (v := _) rfl (by kernel_rfl) (by kernel_rfl) (by kernel_rfl) (fun _ _ _ h => h) (Or.inl ⟨by rfl, ?taq54⟩) (by assumption) ?tbq54
      case taq54 =>
        intro wS hSw
        (try dsimp only at hSw)
        go_simp
        (try (with_reducible rfl))
      (try simp only [List.getElem_toArray, List.getElem_cons_zero, List.getElem_cons_succ, Act.put, List.setIfInBounds_toArray, List.set_cons_zero, List.set_cons_succ])
      refine wpAnyH_ready (rs := [11]) (by kernel_rfl) (by simp) ?_
      refine AllReadyH.cons rfl (fun K9 hK9 => ?_) AllReadyH.nil
      (try simp only [List.getElem_toArray, List.getElem_cons_zero, List.getElem_cons_succ])
      go_simp
      refine HCO.out.mono ?_
      rintro en w5 ⟨A5, c5, rfl, hr5, hb5⟩
      have HB5 : Hid (Below w2.heap.size w2 w5) := Lib.hid ((Below.refl w2.heap.size w2).drew.trans hb5)
      have hcc := fun (p : Addr) (hp : p.block < w2.heap.size) => HB5.out.cell (p := p) hp
      have HR5 := Lib.hid hr5
      have z0 := (hcc ⟨w.heap.size, 0, none⟩ hw2).trans k0
      have z1 := (hcc ⟨w.heap.size, 1, none⟩ hw2).trans k1
      have z2 := (hcc ⟨w.heap.size, 2, none⟩ hw2).trans k2
      have z3 := (hcc ⟨w.heap.size, 3, none⟩ hw2).trans k3
      have z4 := (hcc ⟨gr, og + m, none⟩ hgr).trans hcl1
      have z5 := (hcc ⟨gl, ol + m * 7, none⟩ hgl2).trans q0
      have z6 := (hcc ⟨gl, ol + m * 7 + 1, none⟩ hgl2).trans q1
      have z7 := (hcc ⟨gl, ol + m * 7 + 2, none⟩ hgl2).trans q2
      have z8 := (hcc ⟨gl, ol + m * 7 + 3, none⟩ hgl2).trans q3
      have z9 := (hcc ⟨gl, ol + m * 7 + 4, none⟩ hgl2).trans q4
      have z10 := (hcc ⟨gl, ol + m * 7 + 5, none⟩ hgl2).trans q5
      have z11 := (hcc ⟨gl, ol + m * 7 + 6, none⟩ hgl2).trans q6
      clear hb5 hcc hr5
      dsimp only
      refine hK9.out _ _ (⟨z0, z1, z2, z3, z4, z5, z6, z7, z8, z9, z10, z11⟩) (fun hHeld9 => ?_)
      clear hK9 K9
      (try simp only [List.getElem_toArray, List.getElem_cons_zero, List.getElem_cons_succ, Act.put, List.setIfInBounds_toArray, List.set_cons_zero, List.set_cons_succ])
      refine' wpAnyH_take (i := 12) (v := _) rfl (by kernel_rfl) (by kernel_rfl) (by kernel_rfl) (fun _ _ _ h => h) (Or.inl ⟨by rfl, ?taq55⟩) (by assumption) ?tbq55
      case taq55 =>
        intro wS hSw
        (try dsimp only at hSw)
        go_simp
        (try (with_reducible rfl))
      (try simp only [List.getElem_toArray, List.getElem_cons_zero, List.getElem_cons_succ, Act.put, List.setIfInBounds_toArray, List.set_cons_zero, List.set_cons_succ])
      refine' wpAnyH_take (i := 13) (v := _) rfl (by kernel_rfl) (by kernel_rfl) (by kernel_rfl) (fun _ _ _ h => h) (Or.inl ⟨by rfl, ?taq56⟩) (by assumption) ?tbq56
      case taq56 =>
        intro wS hSw
        (try dsimp only at hSw)
        go_simp
        (try (with_reducible rfl))
      (try simp only [List.getElem_toArray, List.getElem_cons_zero, List.getElem_cons_succ, Act.put, List.setIfInBounds_toArray, List.set_cons_zero, List.set_cons_succ])
      refine' wpAnyH_take (i := 14) (v := _) rfl (by kernel_rfl) (by kernel_rfl) (by kernel_rfl) (fun _ _ _ h => h) (Or.inl ⟨by rfl, ?taq57⟩) (by assumption) ?tbq57
      case taq57 =>
        intro wS hSw
        (try dsimp only at hSw)
        go_simp
        (try (with_reducible rfl))
      (try simp only [List.getElem_toArray, List.getElem_cons_zero, List.getElem_cons_succ, Act.put, List.setIfInBounds_toArray, List.set_cons_zero, List.set_cons_succ])
      refine' wpAnyH_take (i := 15) (v := _) rfl (by kernel_rfl) (by kernel_rfl) (by kernel_rfl) (fun _ _ _ h => h) (Or.inl ⟨by rfl, ?taq58⟩) (by assumption) ?tbq58
      case taq58 =>
        intro wS hSw
        (try dsimp only at hSw)
        go_simp
        (try (with_reducible rfl))
      (try simp only [List.getElem_toArray, List.getElem_cons_zero, List.getElem_cons_succ, Act.put, List.setIfInBounds_toArray, List.set_cons_zero, List.set_cons_succ])
      refine' wpAnyH_take (i := 16) (v := _) rfl (by kernel_rfl) (by kernel_rfl) (by kernel_rfl) (fun _ _ _ h => h) (Or.inl ⟨by rfl, ?taq59⟩) (by assumption) ?tbq59
      case taq59 =>
        intro wS hSw
        (try dsimp only at hSw)
        go_simp
        (try (with_reducible rfl))
      (try simp only [List.getElem_toArray, List.getElem_cons_zero, List.getElem_cons_succ, Act.put, List.setIfInBounds_toArray, List.set_cons_zero, List.set_cons_succ])
      refine wpAnyH_done (by kernel_rfl) ?_ _
      have HB9 := Lib.hid (HB2.out.trans (HB5.out.mono (HB2.out.size)))
      by_cases hp : 0 < sizeI qd
      · have tp : decide (0 < sizeI qd) = true := by simpa using hp
        have HP := Lib.hid hp
        clear hp
        go_wp2_with fail
        refine (maydims_any qd _ _ _ HR5.out HQB.out).mono ?_
        rintro en w6 ⟨rfl, rfl⟩
        rw [tp]
        dsimp only
        go_wp2
        refine bodyPost_ret (v := .tuple #[.slice A5 qd.length c5, .int .i64 qn]) (by simp [results, Try.results45, go_sem]) rfl ?_
        rw [HW.out, HQ.out, if_pos HP.out]
        exact ⟨A5, c5, rfl, HR5.out, HB9.out⟩
      · have tp : decide (0 < sizeI qd) = false := by simpa using hp
        have HP := Lib.hid hp
        clear hp
        go_wp2_with fail
        refine (maydims_any qd _ _ _ HR5.out HQB.out).mono ?_
        rintro en w6 ⟨rfl, rfl⟩
        rw [tp]
        dsimp only
        go_wp2
        refine bodyPost_ret (v := .tuple #[.slice none 0 0, .int .i64 0]) (by simp [results, Try.results45, go_sem]) rfl ?_
        rw [HW.out, HQ.out, if_neg (Int.not_lt.2 HP.out)]
        exact Summed.noR HB9.out
    · have HW : Hid (pdimsI a b c ls layer = ([], 0)) := Lib.hid (by unfold pdimsI; rw [HSE.out, if_neg (by rintro ⟨_, h⟩; exact hr h)])
      clear hs hok
      by_cases h1 : layer < 1
      · have t1 : decide (layer < 1) = true := by simpa using h1
        clear h1 hr
        go_enter Try.func45, Try.ntmps45
        go_wp2_with fail
        refine HC.out.mono ?_
        rintro en w2 ⟨A2, c2, rfl, hrows, hb2⟩
        have HB2 := Lib.hid (HB0.out.trans (hb2.mono (by omega)))
        clear hb2 hrows
        dsimp only
        go_wp2
        refine bodyPost_ret (v := .tuple #[.slice none 0 0, .int .i64 0]) (by simp [results, Try.results45, go_sem]) rfl ?_
        rw [HW.out]
        exact Summed.noR HB2.out
      · have t1 : decide (layer < 1) = false := by simpa using h1
        have t2 : decide ((ls.length : Int) < layer) = true := decide_eq_true (by omega)
        clear h1 hr
        go_enter Try.func45, Try.ntmps45
        go_wp2_with fail
        refine HC.out.mono ?_
        rintro en w2 ⟨A2, c2, rfl, hrows, hb2⟩
        have HB2 := Lib.hid (HB0.out.trans (hb2.mono (by omega)))
        have K2 := KB.out.below hb2 hsz
        have k3 := K2.cell 3
        simp only [List.getElem?_cons_zero, List.getElem?_cons_succ] at k3
        clear hb2 hrows
        dsimp only
        go_wp2
        refine bodyPost_ret (v := .tuple #[.slice none 0 0, .int .i64 0]) (by simp [results, Try.results45, go_sem]) rfl ?_
        rw [HW.out]
        exact Summed.noR HB2.out
theorem sizeGo_eachF : ∀ (d : List Int) (n : Int), 0 < sizeGo n d → ∀ x ∈ d, 1 ≤ x ∧ x ≤ 4096
  | [], _, _, x, hx => by cases hx
  | y :: d, n, h, x, hx => by
    unfold sizeGo at h
    split at h
    · omega
    · rcases List.mem_cons.1 hx with rfl | hx
      · omega
      · exact sizeGo_eachF d _ h x hx
theorem pdims_in (a b c : Int) (ls : List LayV) (layer : Int) : ∀ x ∈ (pdimsI a b c ls layer).1, -9223372036854775808 ≤ x ∧ x ≤ 9223372036854775807 := by
  unfold pdimsI
  split
  · split
    · rename_i h2
      intro x hx
      unfold sizeI at h2
      split at h2
      · omega
      · have := sizeGo_eachF _ 1 h2 x hx
        omega
    · simp
  · simp
set_option maxHeartbeats 3200000 in
set_option maxRecDepth 100000 in
theorem few_any (a b c : Int) (v : Value) (ls : List LayV) (w : World) (B : Nat) (hB : B ≤ w.heap.size) (h : LaysOf w B v ls) :
    Calls Try.prog 24 #[.agg #[.int .i64 a, .int .i64 b, .int .i64 c, v]] w fun en w' => (∃ r, en = .returned (.bool r)) ∧ Below w.heap.size w w' := by
  obtain ⟨A, cc, rfl⟩ := h.form
  have hlen := h.len
  have HL := Lib.hid h
  have hb0 := net_one w (.cells #[.int .i64 a, .int .i64 b, .int .i64 c, .slice A ls.length cc] 25)
  have HB0 := Lib.hid hb0
  have hsz : w.heap.size < (w.alloc (.cells #[.int .i64 a, .int .i64 b, .int .i64 c, .slice A ls.length cc] 25)).heap.size := by simp
  have KB := Lib.hid (Blk.fresh w 25 [.int .i64 a, .int .i64 b, .int .i64 c, .slice A ls.length cc])
  have HSH : Hid (∀ res, shapesM a b c ls = res → Calls Try.prog 13 #[.agg #[.int .i64 a, .int .i64 b, .int .i64 c, .slice A ls.length cc]] (w.alloc (.cells #[.int .i64 a, .int .i64 b, .int .i64 c, .slice A ls.length cc] 25)) (Shaped (w.alloc (.cells #[.int .i64 a, .int .i64 b, .int .i64 c, .slice A ls.length cc] 25)) res)) :=
    Lib.hid (fun res hres => rshapesN_any a b c _ ls _ B (by omega) (HL.out.below (HB0.out.mono hB)) res hres)
  clear h hb0
  rcases shapesM_cases a b c ls with ⟨hs, hm⟩ | ⟨n, hs, hn1, hn2, hm⟩ | ⟨all, hs, hok⟩
  · have HC := Lib.hid (HSH.out _ hs)
    clear hs hm
    go_enter Try.func24, Try.ntmps24
    go_wp2_with fail
    refine HC.out.mono ?_
    rintro en w2 ⟨A2, c2, rfl, hrows, hb2⟩
    have HB2 := Lib.hid (HB0.out.trans (hb2.mono (by omega)))
    have K2 := Lib.hid (KB.out.below hb2 hsz)
    have k3 := K2.out.cell 3
    simp only [List.getElem?_cons_zero, List.getElem?_cons_succ] at k3
    clear hb2 hrows
    dsimp only
    go_wp2
    go_ret
    exact ⟨⟨_, rfl⟩, HB2.out⟩
  · have HC := Lib.hid (HSH.out _ hs)
    clear hs hm
    go_enter Try.func24, Try.ntmps24
    go_wp2_with fail
    refine HC.out.mono ?_
    rintro en w2 ⟨A2, c2, rfl, hrows, hb2⟩
    have HB2 := Lib.hid (HB0.out.trans (hb2.mono (by omega)))
    have K2 := Lib.hid (KB.out.below hb2 hsz)
    have k3 := K2.out.cell 3
    simp only [List.getElem?_cons_zero, List.getElem?_cons_succ] at k3
    clear hb2 hrows
    dsimp only
    go_wp2
    go_ret
    exact ⟨⟨_, rfl⟩, HB2.out⟩
  · have HC := Lib.hid (HSH.out _ hs)
    have hml := hok.len
    have HGD := Lib.hid hok.good
    have h12 := (mayM_parts hok.may).2.1.2
    clear hs hok
    go_enter Try.func24, Try.ntmps24
    go_wp2_with fail
    refine HC.out.mono ?_
    rintro en w2 ⟨A2, c2, rfl, hrows, hb2⟩
    have HB2 := Lib.hid (HB0.out.trans (hb2.mono (by omega)))
    have K2 := Lib.hid (KB.out.below hb2 hsz)
    have HRW := Lib.hid hrows
    have hw2 := K2.out.lt
    dsimp only
    have hal : all.length ≤ 13 := by omega
    have HML := Lib.hid hml
    clear hb2 hrows HC HB0 KB hml
    go_wp2_with fail
    go_loopw [6, 25] (fun n i wr => ∃ (k : Nat) (x : Int), k ≤ all.length ∧ i = .int .i64 k ∧ n = .int .i64 x ∧ Hid (Below w2.heap.size w2 wr)) (fun _ i _ => all.length - (intOf i).toNat)
    case atStart => exact ⟨0, 0, by omega, rfl, rfl, Lib.hid (Below.refl _ _)⟩
    case round =>
      obtain ⟨k, x, hk, rfl, rfl, HBR⟩ := hrel
      by_cases hlt : k < all.length
      · obtain ⟨d, hd⟩ : ∃ d, all[k]? = some d := ⟨all[k], List.getElem?_eq_getElem hlt⟩
        have hgd := HGD.out k d hd
        have HDI : Hid (∀ x ∈ d, -9223372036854775808 ≤ x ∧ x ≤ 9223372036854775807) := Lib.hid (fun x hx => by have := hgd.bd x hx; omega)
        obtain ⟨gr, og, c3, A3, c4, e1, hgr, hcl1, hrl⟩ := (HRW.out.below HBR.out).at_ hd
        injection e1 with e1 _ e3
        subst e1 e3
        have HRL := Lib.hid hrl
        have hk2 := K2.out.below HBR.out hw2
        have HKM := Lib.hid hk2
        have i0 : 0 ≤ (k : Int) := by omega
        have i1 : (k : Int) < (all.length : Int) := by omega
        have HBW := Lib.hid (HB2.out.trans (HBR.out.mono HB2.out.size))
        have hsr := HBW.out.size
        clear hd hgd hrl hk2
        rcases Nat.eq_zero_or_pos k with h0 | h0
        · subst h0
          rw [Nat.add_zero] at hcl1
          go_wp2_with fail
          refine (r1size_any d _ wr _ HRL.out HDI.out).mono ?_
          rintro en w3 ⟨rfl, rfl⟩
          dsimp only
          go_wp2_with fail
          go_roundw
          case rel => exact ⟨1, _, by omega, by go_num, rfl, HBR⟩
          case measure => simp [intOf]; omega
        · have t1 : decide (0 < (k : Int)) = true := decide_eq_true (by omega)
          obtain ⟨q, hq⟩ : ∃ q, pdimsI a b c ls (k : Int) = q := ⟨_, rfl⟩
          have HPI := Lib.hid (pdims_in a b c ls (k : Int))
          rw [hq] at HPI
          have HCD := Lib.hid (rpdims_any a b c _ ls (k : Int) wr B (by omega) (HL.out.below (HBW.out.mono hB)) q hq)
          obtain ⟨qd, qn⟩ := q
          have m0 := HKM.out.cell 0
          have m1 := HKM.out.cell 1
          have m2 := HKM.out.cell 2
          have m3 := HKM.out.cell 3
          simp only [List.getElem?_cons_zero, List.getElem?_cons_succ] at m0 m1 m2 m3
          clear hq
          go_wp2_with fail
          refine (r1size_any d _ wr _ HRL.out HDI.out).mono ?_
          rintro en w3 ⟨rfl, rfl⟩
          dsimp only
          go_wp2_with fail
          refine HCD.out.mono ?_
          rintro en w4 ⟨A5, c5, rfl, hr5, hb5⟩
          have HB5 := Lib.hid (HBR.out.trans (hb5.mono HBR.out.size))
          have HR5 := Lib.hid hr5
          clear hb5 hr5 m0 m1 m2 m3
          dsimp only
          go_wp2_with fail
          refine (r1size_any qd _ w4 _ HR5.out HPI.out).mono ?_
          rintro en w5 ⟨rfl, rfl⟩
          dsimp only
          go_wp2_with fail
          go_roundw
          case rel => exact ⟨k + 1, _, by omega, by go_num, rfl, HB5⟩
          case measure => simp [intOf]; omega
      · obtain rfl : k = all.length := by omega
        go_wp2
        go_ret
        exact ⟨⟨_, rfl⟩, HB2.out.trans (HBR.out.mono HB2.out.size)⟩
end Go.Proofs.Ytkileiikffomlaa
