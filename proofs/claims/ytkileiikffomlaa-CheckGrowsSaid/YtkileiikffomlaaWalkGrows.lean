/- The walk of CheckGrows. -/
import Derived.Test.YtkileiikffomlaaNetAwake
import Derived.Test.YtkileiikffomlaaOpenM
import Derived.Test.YtkileiikffomlaaNetGrowP
import Derived.Test.YtkileiikffomlaaNetRMay
import Derived.Test.YtkileiikffomlaaKept
import Derived.Test.YtkileiikffomlaaSame
namespace Go.Proofs.Ytkileiikffomlaa
open Go.RowKit
set_option linter.unusedVariables false
set_option linter.unusedSimpArgs false

theorem heap_drew (w : World) : w.drew.heap.size = w.heap.size := rfl
theorem flat_take {α β : Type} (f : α → List β) (size : Nat) : ∀ (l : List α), (∀ p ∈ l, (f p).length = size) → ∀ k, (l.flatMap f).take (k * size) = (l.take k).flatMap f
  | [], _, k => by simp
  | p :: l, h, 0 => by simp
  | p :: l, h, k + 1 => by
    rw [List.flatMap_cons, List.take_succ_cons, List.flatMap_cons, Nat.succ_mul, ← flat_take f size l (fun q hq => h q (by simp [hq])) k, Nat.add_comm, List.take_append]
    rw [h p (by simp), Nat.add_sub_cancel_left, List.take_of_length_le (by rw [h p (by simp)]; omega)]
theorem LaysOf.front {w : World} {B n c k : Nat} {A : Option Addr} {ls : List LayV} (h : LaysOf w B (.slice A n c) ls) (hk : k ≤ ls.length) : LaysOf w B (.slice A k c) (ls.take k) := by
  obtain ⟨A', c', e⟩ := h.form
  injection e with e1 e2 e3
  subst e1 e2 e3
  refine ⟨?_, Lib.hid (fun l hl => h.ok.out l (List.mem_of_mem_take hl)), ⟨A, c, ?_⟩, ?_⟩
  · rw [← flat_take LayV.cells 7 ls (fun _ _ => rfl) k]
    exact h.rd.take hk
  · rw [List.length_take, Nat.min_eq_left hk]
  · have := h.len
    rw [List.length_take]
    omega
theorem LaysOf.of_own {w : World} {base c : Nat} {A : Option Addr} {ls : List LayV} (h : w.ownsRow base 43 7 (.slice A ls.length c) ls.length (ls.flatMap LayV.cells)) (hok : ∀ l ∈ ls, l.ok) (hl : ls.length ≤ 1000) : LaysOf w w.heap.size (.slice A ls.length c) ls :=
  ⟨ReadsN.of_own (by omega) h, Lib.hid hok, ⟨A, c, rfl⟩, by omega⟩
theorem elem_layer : ElemN Try.prog 23 43 7 (.agg #[.int .i64 0, .int .i64 0, .int .i64 0, .int .i64 0, .int .i64 0, .int .i64 0, .bool false]) 56 := ⟨Try.underlying23, by kernel_rfl, rfl, by omega⟩
theorem cells_one (ls : List LayV) : ∀ u ∈ ls.flatMap LayV.cells, u.oneCell' = true := by
  intro u hu
  obtain ⟨l, _, hl⟩ := List.mem_flatMap.1 hu
  unfold LayV.cells at hl
  simp only [List.mem_cons, List.not_mem_nil, or_false] at hl
  rcases hl with rfl | rfl | rfl | rfl | rfl | rfl | rfl <;> rfl
theorem conv_modN (a : Int) (m : Nat) (h0 : 0 < m) (h1 : m ≤ 100) : ∃ k : Nat, wrap64 (1 + wrap64 ((IntKind.u64.wrap a).tmod m)) = k ∧ 1 ≤ k ∧ k ≤ m := by
  have hu : 0 ≤ IntKind.u64.wrap a := by rw [IntKind.wrap_u64]; omega
  have ht : (IntKind.u64.wrap a).tmod m = (IntKind.u64.wrap a) % m := Int.tmod_eq_emod_of_nonneg hu
  have h2 := Int.emod_nonneg (IntKind.u64.wrap a) (show (m : Int) ≠ 0 by omega)
  have h3 := Int.emod_lt_of_pos (IntKind.u64.wrap a) (show (0 : Int) < m by omega)
  rw [ht]
  generalize (IntKind.u64.wrap a) % m = x at h2 h3
  refine ⟨(1 + x).toNat, ?_, by omega, by omega⟩
  unfold wrap64
  omega
theorem quiet_add {P : Program} {f : FuncId} {args : Array Value} {w : World} {m n : Nat} {v : Value} (h : Calls P f args (w.drewN (m + n)) (Quiet (w.drewN (m + n)) v)) :
    Calls P f args (w.drewN (m + n)) fun e w'' => e = .returned v ∧ ∃ j, w'' = w.drewN (m + j) :=
  h.mono fun _ _ ⟨he, j, hj⟩ => ⟨he, n + j, by rw [hj, World.drewN_drewN, Nat.add_assoc]⟩
theorem ne_none_of {n e : Int} {all : List (List Int)} {a b c : Int} {ls : List LayV} (h : shapesM a b c ls = (all, n, e)) : (all = [] ∧ e ≠ 0) ∨ (e = 0 ∧ n = 0 ∧ all.length = ls.length + 1 ∧ mayM a b c ls = true) := by
  rcases shapesM_cases a b c ls with ⟨hs, hm⟩ | ⟨n', hs, _, _, hm⟩ | ⟨all', hs, hok⟩ <;> rw [hs] at h <;> injection h with h1 h2 <;> injection h2 with h2 h3
  · exact .inl ⟨h1.symm, by omega⟩
  · exact .inl ⟨h1.symm, by omega⟩
  · exact .inr ⟨h3.symm, h2.symm, by rw [← h1]; exact hok.len, hok.may⟩

set_option maxHeartbeats 6400000 in
set_option maxRecDepth 100000 in
theorem checkGrows_walk (v0 : Value) (a0 : NetV) (a1 : Int) (w : World) (o0 : NetOf w v0 a0) (w1 : (Lit.int .i64 a1).wf = true) :
    Calls Try.prog 6 #[v0, .int .i64 a1] w fun en w' => en = .returned (.bool true) ∧ Below w.heap.size w w' := by
  obtain ⟨a, b, c, lv, ls⟩ := a0
  obtain ⟨rfl, wa, wb, wc, hl⟩ := o0
  simp only at hl wa wb wc ⊢
  obtain ⟨⟨all, qn, qe⟩, hq⟩ : ∃ q, shapesM a b c ls = q := ⟨_, rfl⟩
  rcases ne_none_of hq with ⟨rfl, hne⟩ | ⟨rfl, rfl, hal, hmay⟩
  · obtain ⟨A, cc, rfl⟩ := hl.form
    have hb0 := net_one w (.cells #[.int .i64 a, .int .i64 b, .int .i64 c, .slice A ls.length cc] 25)
    have hsz : w.heap.size < (w.alloc (.cells #[.int .i64 a, .int .i64 b, .int .i64 c, .slice A ls.length cc] 25)).heap.size := by simp
    have HB0 := Lib.hid hb0
    have C1 := Lib.hid (shapes_any a b c _ ls _ w.heap.size hb0.size (hl.below hb0) _ hq)
    have t1 : (qe != 0) = true := by simpa using hne
    clear hl hb0 wa wb wc w1 hq hne
    go_enter Try.func6, Try.ntmps6
    go_wp2_with fail
    refine C1.out.mono ?_
    rintro en wa ⟨Ra, ca, rfl, hra, hb1⟩
    have HB1 := Lib.hid (HB0.out.trans (hb1.mono (by omega)))
    clear hb1 hra
    dsimp only
    go_wp2_with (go_at_call 11; refine (awake16_any _).mono ?_; rintro en wd ⟨rfl, hb4⟩)
    go_ret
    exact ⟨rfl, HB1.out.trans (hb4.mono HB1.out.size)⟩
  · obtain ⟨hm1, ⟨hl1, hl12⟩, hm3⟩ := mayM_parts hmay
    obtain ⟨g, o, cc, l0, hlv, _⟩ := hl.at_ (k := 0) (by omega)
    subst hlv
    have hb0 := net_one w (.cells #[.int .i64 a, .int .i64 b, .int .i64 c, .slice (some ⟨g, o, none⟩) ls.length cc] 25)
    have hsz : w.heap.size < (w.alloc (.cells #[.int .i64 a, .int .i64 b, .int .i64 c, .slice (some ⟨g, o, none⟩) ls.length cc] 25)).heap.size := by simp
    have KB := Lib.hid (Blk.fresh w 25 [.int .i64 a, .int .i64 b, .int .i64 c, .slice (some ⟨g, o, none⟩) ls.length cc])
    have HB0 := Lib.hid hb0
    have HL := Lib.hid hl
    have HQ := Lib.hid hq
    have HM := Lib.hid hmay
    have HAL := Lib.hid hal
    have hcc : ls.length ≤ cc ∧ cc ≤ 9223372036854775807 := by
      obtain ⟨A9, n9, c9, e9, _, h2, h3, _⟩ := hl.rd
      injection e9 with _ e2 e3
      subst e2 e3
      exact ⟨h2, h3⟩
    obtain ⟨hcc1, hcc2⟩ := hcc
    have t2 : ((all.length : Int) != (ls.length : Int) + 1) = false := by simp; omega
    have t3 : decide ((ls.length : Int) < 1) = false := by simp; omega
    have tz : ((ls.length : Int) == 0) = false := beq_eq_false_iff_ne.2 (by omega)
    have C1 := Lib.hid (shapes_any a b c _ ls _ w.heap.size hb0.size (hl.below hb0) _ hq)
    clear hl hb0 wa wb wc w1 hq hmay hm1 hm3 hal
    go_enter Try.func6, Try.ntmps6
    go_wp2_with fail
    refine C1.out.mono ?_
    rintro en wa ⟨Ra, ca, rfl, hra, hb1⟩
    have HB1 := Lib.hid (HB0.out.trans (hb1.mono (by omega)))
    have HRA := Lib.hid hra
    have K1 := Lib.hid (KB.out.below hb1 hsz)
    have k0 := K1.out.cell 0
    have k1 := K1.out.cell 1
    have k2 := K1.out.cell 2
    have k3 := K1.out.cell 3
    simp only [List.getElem?_cons_zero, List.getElem?_cons_succ] at k0 k1 k2 k3
    clear hb1 hra HB0 KB
    dsimp only at HRA ⊢
    go_upto_region 5 with fail
    obtain ⟨k, hkk, hk1, hk2⟩ := conv_modN a1 ls.length (by omega) (by omega)
    rw [hkk]
    have C2 : Hid (∀ W : World, Below w.heap.size w W → Calls Try.prog 12 #[.agg #[.int .i64 a, .int .i64 b, .int .i64 c, .slice (some ⟨g, o, none⟩) k cc]] W (Shaped W (all.take (k + 1), 0, 0))) :=
      Lib.hid (fun W hW => shapes_any a b c _ (ls.take k) W w.heap.size hW.size ((HL.out.front hk2).below hW) _ (shapesM_take HQ.out HM.out hk1 hk2))
    obtain ⟨al2, hal2⟩ : ∃ x, all.take (k + 1) = x := ⟨_, rfl⟩
    have hl2 : al2.length = k + 1 := by rw [← hal2, List.length_take, HAL.out]; omega
    have t4 : ((al2.length : Int) != (k : Int) + 1) = false := by simp; omega
    have hl2b : al2.length ≤ 9223372036854775807 ∧ al2.length ≤ all.length := by rw [HAL.out]; omega
    obtain ⟨hl2b, hl2c⟩ := hl2b
    have HSUB : Hid (∀ (j : Nat) d, al2[j]? = some d → all[j]? = some d) := Lib.hid (fun j d hd => by
      rw [← hal2, List.getElem?_take] at hd
      split at hd
      · exact hd
      · cases hd)
    rw [hal2] at C2
    have i0 : (0 : Int) ≤ (k : Int) := by omega
    have i1 : (k : Int) ≤ (cc : Int) := by omega
    clear hkk hal2 hl2
    refine wp_region_held_drew (S := (fun w' => w'.cell? ⟨w.heap.size, 0, none⟩ = some (.int .i64 a) ∧ w'.cell? ⟨w.heap.size, 1, none⟩ = some (.int .i64 b) ∧ w'.cell? ⟨w.heap.size, 2, none⟩ = some (.int .i64 c) ∧ w'.cell? ⟨w.heap.size, 3, none⟩ = some (.slice (some ⟨g, o, none⟩) ls.length cc))) (by kernel_rfl) (⟨k0, k1, k2, k3⟩) (fun hHeld => ?_)
    refine' wpAnyH_take (i := 0) (v := _) rfl (by kernel_rfl) (by kernel_rfl) (by kernel_rfl) (fun _ _ _ h => h) (Or.inl ⟨by rfl, ?taq1⟩) (by assumption) ?tbq1
    case taq1 =>
      intro wS hSw
      (try dsimp only at hSw)
      go_simp
      (try (with_reducible rfl))
    (try simp only [List.getElem_toArray, List.getElem_cons_zero, List.getElem_cons_succ, Act.put, List.setIfInBounds_toArray, List.set_cons_zero, List.set_cons_succ])
    refine' wpAnyH_take (i := 1) (v := _) rfl (by kernel_rfl) (by kernel_rfl) (by kernel_rfl) (fun _ _ _ h => h) (Or.inl ⟨by rfl, ?taq2⟩) (by assumption) ?tbq2
    case taq2 =>
      intro wS hSw
      (try dsimp only at hSw)
      go_simp
      (try (with_reducible rfl))
    (try simp only [List.getElem_toArray, List.getElem_cons_zero, List.getElem_cons_succ, Act.put, List.setIfInBounds_toArray, List.set_cons_zero, List.set_cons_succ])
    refine' wpAnyH_take (i := 2) (v := _) rfl (by kernel_rfl) (by kernel_rfl) (by kernel_rfl) (fun _ _ _ h => h) (Or.inl ⟨by rfl, ?taq3⟩) (by assumption) ?tbq3
    case taq3 =>
      intro wS hSw
      (try dsimp only at hSw)
      go_simp
      (try (with_reducible rfl))
    (try simp only [List.getElem_toArray, List.getElem_cons_zero, List.getElem_cons_succ, Act.put, List.setIfInBounds_toArray, List.set_cons_zero, List.set_cons_succ])
    refine' wpAnyH_take (i := 3) (v := _) rfl (by kernel_rfl) (by kernel_rfl) (by kernel_rfl) (fun _ _ _ h => h) (Or.inl ⟨by rfl, ?taq4⟩) (by assumption) ?tbq4
    case taq4 =>
      intro wS hSw
      (try dsimp only at hSw)
      go_simp
      (try (with_reducible rfl))
    (try simp only [List.getElem_toArray, List.getElem_cons_zero, List.getElem_cons_succ, Act.put, List.setIfInBounds_toArray, List.set_cons_zero, List.set_cons_succ])
    refine' wpAnyH_take (i := 4) (v := _) rfl (by kernel_rfl) (by kernel_rfl) (by kernel_rfl) (fun _ _ _ h => h) (Or.inl ⟨by rfl, ?taq5⟩) (by assumption) ?tbq5
    case taq5 =>
      intro wS hSw
      (try dsimp only at hSw)
      go_simp
      (try (with_reducible rfl))
    (try simp only [List.getElem_toArray, List.getElem_cons_zero, List.getElem_cons_succ, Act.put, List.setIfInBounds_toArray, List.set_cons_zero, List.set_cons_succ])
    refine' wpAnyH_take (i := 5) (v := _) rfl (by kernel_rfl) (by kernel_rfl) (by kernel_rfl) (fun _ _ _ h => h) (Or.inl ⟨by rfl, ?taq6⟩) (by assumption) ?tbq6
    case taq6 =>
      intro wS hSw
      (try dsimp only at hSw)
      go_simp
      (try (with_reducible rfl))
    (try simp only [List.getElem_toArray, List.getElem_cons_zero, List.getElem_cons_succ, Act.put, List.setIfInBounds_toArray, List.set_cons_zero, List.set_cons_succ])
    refine' wpAnyH_take (i := 6) (v := _) rfl (by kernel_rfl) (by kernel_rfl) (by kernel_rfl) (fun _ _ _ h => h) (Or.inl ⟨by rfl, ?taq7⟩) (by assumption) ?tbq7
    case taq7 =>
      intro wS hSw
      (try dsimp only at hSw)
      go_simp
      (try (with_reducible rfl))
    (try simp only [List.getElem_toArray, List.getElem_cons_zero, List.getElem_cons_succ, Act.put, List.setIfInBounds_toArray, List.set_cons_zero, List.set_cons_succ])
    refine wpAnyH_ready (rs := [7]) (by kernel_rfl) (by simp) ?_
    refine AllReadyH.cons rfl (fun K9 hK9 => ?_) AllReadyH.nil
    (try simp only [List.getElem_toArray, List.getElem_cons_zero, List.getElem_cons_succ])
    go_simp
    refine (C2.out _ HB1.out.drew).mono ?_
    rintro en wb ⟨Rb, cb, rfl, hrb, hb2⟩
    have hb2' : Below wa.heap.size wa wb := (Below.refl _ wa).drew.trans hb2
    have HB2 : Hid (Below w.heap.size w wb) := Lib.hid (HB1.out.trans (hb2'.mono HB1.out.size))
    have K2 := Lib.hid (K1.out.below hb2' K1.out.lt)
    have HRA2 := Lib.hid ((HRA.out.below hb2').more hb2'.size)
    have HRB := Lib.hid hrb
    have sz2 := K2.out.lt
    dsimp only at HRB ⊢
    clear hb2 hb2' hrb HRA HB1 K1 k0 k1 k2 k3
    refine hK9.out _ _ (⟨K2.out.cell 0, K2.out.cell 1, K2.out.cell 2, K2.out.cell 3⟩) (fun hHeld9 => ?_)
    clear hK9 K9
    (try simp only [List.getElem_toArray, List.getElem_cons_zero, List.getElem_cons_succ, Act.put, List.setIfInBounds_toArray, List.set_cons_zero, List.set_cons_succ])
    refine' wpAnyH_take (i := 8) (v := _) rfl (by kernel_rfl) (by kernel_rfl) (by kernel_rfl) (fun _ _ _ h => h) (Or.inl ⟨by rfl, ?taq8⟩) (by assumption) ?tbq8
    case taq8 =>
      intro wS hSw
      (try dsimp only at hSw)
      go_simp
      (try (with_reducible rfl))
    (try simp only [List.getElem_toArray, List.getElem_cons_zero, List.getElem_cons_succ, Act.put, List.setIfInBounds_toArray, List.set_cons_zero, List.set_cons_succ])
    refine' wpAnyH_take (i := 9) (v := _) rfl (by kernel_rfl) (by kernel_rfl) (by kernel_rfl) (fun _ _ _ h => h) (Or.inl ⟨by rfl, ?taq9⟩) (by assumption) ?tbq9
    case taq9 =>
      intro wS hSw
      (try dsimp only at hSw)
      go_simp
      (try (with_reducible rfl))
    (try simp only [List.getElem_toArray, List.getElem_cons_zero, List.getElem_cons_succ, Act.put, List.setIfInBounds_toArray, List.set_cons_zero, List.set_cons_succ])
    refine' wpAnyH_take (i := 10) (v := _) rfl (by kernel_rfl) (by kernel_rfl) (by kernel_rfl) (fun _ _ _ h => h) (Or.inl ⟨by rfl, ?taq10⟩) (by assumption) ?tbq10
    case taq10 =>
      intro wS hSw
      (try dsimp only at hSw)
      go_simp
      (try (with_reducible rfl))
    (try simp only [List.getElem_toArray, List.getElem_cons_zero, List.getElem_cons_succ, Act.put, List.setIfInBounds_toArray, List.set_cons_zero, List.set_cons_succ])
    refine' wpAnyH_take (i := 11) (v := _) rfl (by kernel_rfl) (by kernel_rfl) (by kernel_rfl) (fun _ _ _ h => h) (Or.inl ⟨by rfl, ?taq11⟩) (by assumption) ?tbq11
    case taq11 =>
      intro wS hSw
      (try dsimp only at hSw)
      go_simp
      (try (with_reducible rfl))
    (try simp only [List.getElem_toArray, List.getElem_cons_zero, List.getElem_cons_succ, Act.put, List.setIfInBounds_toArray, List.set_cons_zero, List.set_cons_succ])
    refine' wpAnyH_take (i := 12) (v := _) rfl (by kernel_rfl) (by kernel_rfl) (by kernel_rfl) (fun _ _ _ h => h) (Or.inl ⟨by rfl, ?taq12⟩) (by assumption) ?tbq12
    case taq12 =>
      intro wS hSw
      (try dsimp only at hSw)
      go_simp
      (try (with_reducible rfl))
    (try simp only [List.getElem_toArray, List.getElem_cons_zero, List.getElem_cons_succ, Act.put, List.setIfInBounds_toArray, List.set_cons_zero, List.set_cons_succ])
    refine' wpAnyH_take (i := 13) (v := _) rfl (by kernel_rfl) (by kernel_rfl) (by kernel_rfl) (fun _ _ _ h => h) (Or.inl ⟨by rfl, ?taq13⟩) (by assumption) ?tbq13
    case taq13 =>
      intro wS hSw
      (try dsimp only at hSw)
      go_simp
      (try (with_reducible rfl))
    (try simp only [List.getElem_toArray, List.getElem_cons_zero, List.getElem_cons_succ, Act.put, List.setIfInBounds_toArray, List.set_cons_zero, List.set_cons_succ])
    refine' wpAnyH_take (i := 14) (v := _) rfl (by kernel_rfl) (by kernel_rfl) (by kernel_rfl) (fun _ _ _ h => h) (Or.inl ⟨by rfl, ?taq14⟩) (by assumption) ?tbq14
    case taq14 =>
      intro wS hSw
      (try dsimp only at hSw)
      go_simp
      (try (with_reducible rfl))
    (try simp only [List.getElem_toArray, List.getElem_cons_zero, List.getElem_cons_succ, Act.put, List.setIfInBounds_toArray, List.set_cons_zero, List.set_cons_succ])
    refine wpAnyH_done (by kernel_rfl) ?_ _
    go_wp2
    go_loopw [81] (fun i wr => ∃ j : Nat, j ≤ al2.length ∧ i = .int .i64 j ∧ ∃ m, wr = wb.drewN m) (fun i _ => al2.length - (intOf i).toNat)
    case atStart => exact ⟨0, by omega, rfl, 0, rfl⟩
    case round =>
      obtain ⟨j, hj, rfl, m, rfl⟩ := hrel
      by_cases hlt : j < al2.length
      · obtain ⟨d, hd⟩ : ∃ d, al2[j]? = some d := ⟨al2[j], List.getElem?_eq_getElem hlt⟩
        obtain ⟨ga, oa, ca', Aa, ca2, ea, hga, hca, hRa⟩ := HRA2.out.at_ (HSUB.out j d hd)
        obtain ⟨gb, ob, cb', Ab, cb2, eb, hgb, hcb, hRb⟩ := HRB.out.at_ hd
        injection ea with ea _ ea3
        injection eb with eb _ eb3
        subst ea ea3 eb eb3
        have tq : (d == d) = true := by simp
        have HSA : Hid (∀ n, Calls Try.prog 14 #[.slice Ab d.length cb2, .slice Aa d.length ca2] (wb.drewN n) (Quiet (wb.drewN n) (.bool true))) := Lib.hid (fun n => by
          have h := sameints_any d d _ _ _ _ _ (hRb.drewN n) (hRa.drewN n)
          rwa [tq] at h)
        have i1 : (0 : Int) ≤ (j : Int) := by omega
        have i2 : (j : Int) < (al2.length : Int) := by omega
        have i3 : (j : Int) < (all.length : Int) := by omega
        clear hRa hRb hd tq HRA2 HRB
        go_wp2
        go_quiet ((go_at_call 14; exact quiet_add (HSA.out _)))
        go_wp2
        go_roundw
        case rel => exact ⟨j + 1, by omega, by go_num, _, rfl⟩
        case measure => simp [intOf]; omega
      · have k0 := K2.out.cell 0
        have k1 := K2.out.cell 1
        have k2 := K2.out.cell 2
        have k3 := K2.out.cell 3
        simp only [List.getElem?_cons_zero, List.getElem?_cons_succ] at k0 k1 k2 k3
        have HB3 : Hid (Below w.heap.size w (wb.drewN m)) := Lib.hid ⟨HB2.out.os, HB2.out.tape, HB2.out.output, HB2.out.size, HB2.out.block⟩
        have HRA3 : Hid (RowsOf (wb.drewN m) wb.heap.size (.slice Ra all.length ca) all) := Lib.hid (HRA2.out.drewN m)
        clear HRA2 HRB
        by_cases h12 : 12 ≤ ls.length
        · have t5 : decide ((12 : Int) ≤ (ls.length : Int)) = true := by simp; omega
          go_wp2_with (go_at_call 11; refine (awake16_any _).mono ?_; rintro en wd ⟨rfl, hb4⟩)
          go_ret
          exact ⟨rfl, HB3.out.trans (hb4.mono HB3.out.size)⟩
        · have t5 : decide ((12 : Int) ≤ (ls.length : Int)) = false := by simp; omega
          go_upto_region 16 with fail
          have hwlt : w.heap.size < (wb.drewN m).heap.size := K2.out.lt
          have K3 : Hid (Blk (wb.drewN m) w.heap.size 25 [.int .i64 a, .int .i64 b, .int .i64 c, .slice (some ⟨g, o, none⟩) ls.length cc]) := Lib.hid (K2.out.drewN m)
          have c0 : (wb.drewN m).cell? ⟨w.heap.size, 0, none⟩ = some (.int .i64 a) := k0
          have c1 : (wb.drewN m).cell? ⟨w.heap.size, 1, none⟩ = some (.int .i64 b) := k1
          have c2 : (wb.drewN m).cell? ⟨w.heap.size, 2, none⟩ = some (.int .i64 c) := k2
          have c3 : (wb.drewN m).cell? ⟨w.heap.size, 3, none⟩ = some (.slice (some ⟨g, o, none⟩) ls.length cc) := k3
          have HRA4 : Hid (RowsOf (wb.drewN m) (wb.drewN m).heap.size (.slice Ra all.length ca) all) := Lib.hid HRA3.out
          clear k0 k1 k2 k3 K2 HRA3
          generalize wb.drewN m = wd at *
          have hfl : (ls.flatMap LayV.cells).length = ls.length * 7 := flat_length LayV.cells 7 ls (fun _ _ => rfl)
          have HFL := Lib.hid hfl
          clear hfl
          go_cut [12] (fun s wx => ∃ (q : Nat) (A8 : Option Addr) (c8 : Nat), s = .pointer (some ⟨q, 0, none⟩) ∧ Kept wd wx 43 7 (.slice A8 (ls.length + 1) c8) (ls.length + 1) (ls.flatMap LayV.cells ++ LayV.cells ⟨5, 0, 0, 0, 0, 0, false⟩) [(q, 25, [.int .i64 a, .int .i64 b, .int .i64 c, .slice A8 (ls.length + 1) c8])])
          case first =>
            have KE0 : Hid (Kept wd wd.drew 43 7 (.slice none 0 0) 0 [] []) := Lib.hid (Kept.start wd _ _).drew
            refine wp_region_held_drew (S := (fun w' => Below wd.heap.size wd w')) (by kernel_rfl) (KE0.out.bel) (fun hHeld => ?_)
            refine' wpAnyH_take (i := 0) (v := _) rfl (by kernel_rfl) (by kernel_rfl) (by kernel_rfl) (fun _ _ _ h => h) (Or.inl ⟨by rfl, ?taq15⟩) (by assumption) ?tbq15
            case taq15 =>
              intro wS hSw
              (try dsimp only at hSw)
              (have c0 := (hSw.cell (p := ⟨w.heap.size, 0, none⟩) hwlt).trans c0; have c1 := (hSw.cell (p := ⟨w.heap.size, 1, none⟩) hwlt).trans c1; have c2 := (hSw.cell (p := ⟨w.heap.size, 2, none⟩) hwlt).trans c2; have c3 := (hSw.cell (p := ⟨w.heap.size, 3, none⟩) hwlt).trans c3; go_simp)
              (try (with_reducible rfl))
            (try simp only [List.getElem_toArray, List.getElem_cons_zero, List.getElem_cons_succ, Act.put, List.setIfInBounds_toArray, List.set_cons_zero, List.set_cons_succ])
            refine' wpAnyH_take (i := 1) (v := _) rfl (by kernel_rfl) (by kernel_rfl) (by kernel_rfl) (fun _ _ _ h => h) (Or.inl ⟨by rfl, ?taq16⟩) (by assumption) ?tbq16
            case taq16 =>
              intro wS hSw
              (try dsimp only at hSw)
              (have c0 := (hSw.cell (p := ⟨w.heap.size, 0, none⟩) hwlt).trans c0; have c1 := (hSw.cell (p := ⟨w.heap.size, 1, none⟩) hwlt).trans c1; have c2 := (hSw.cell (p := ⟨w.heap.size, 2, none⟩) hwlt).trans c2; have c3 := (hSw.cell (p := ⟨w.heap.size, 3, none⟩) hwlt).trans c3; go_simp)
              (try (with_reducible rfl))
            (try simp only [List.getElem_toArray, List.getElem_cons_zero, List.getElem_cons_succ, Act.put, List.setIfInBounds_toArray, List.set_cons_zero, List.set_cons_succ])
            refine' wpAnyH_take (i := 3) (v := _) rfl (by kernel_rfl) (by kernel_rfl) (by kernel_rfl) (fun _ _ _ h => h) (Or.inl ⟨by rfl, ?taq17⟩) (by assumption) ?tbq17
            case taq17 =>
              intro wS hSw
              (try dsimp only at hSw)
              (have c0 := (hSw.cell (p := ⟨w.heap.size, 0, none⟩) hwlt).trans c0; have c1 := (hSw.cell (p := ⟨w.heap.size, 1, none⟩) hwlt).trans c1; have c2 := (hSw.cell (p := ⟨w.heap.size, 2, none⟩) hwlt).trans c2; have c3 := (hSw.cell (p := ⟨w.heap.size, 3, none⟩) hwlt).trans c3; go_simp)
              (try (with_reducible rfl))
            (try simp only [List.getElem_toArray, List.getElem_cons_zero, List.getElem_cons_succ, Act.put, List.setIfInBounds_toArray, List.set_cons_zero, List.set_cons_succ])
            refine' wpAnyH_take (i := 4) (v := _) rfl (by kernel_rfl) (by kernel_rfl) (by kernel_rfl) (fun _ _ _ h => h) (Or.inl ⟨by rfl, ?taq18⟩) (by assumption) ?tbq18
            case taq18 =>
              intro wS hSw
              (try dsimp only at hSw)
              (have c0 := (hSw.cell (p := ⟨w.heap.size, 0, none⟩) hwlt).trans c0; have c1 := (hSw.cell (p := ⟨w.heap.size, 1, none⟩) hwlt).trans c1; have c2 := (hSw.cell (p := ⟨w.heap.size, 2, none⟩) hwlt).trans c2; have c3 := (hSw.cell (p := ⟨w.heap.size, 3, none⟩) hwlt).trans c3; go_simp)
              (try (with_reducible rfl))
            (try simp only [List.getElem_toArray, List.getElem_cons_zero, List.getElem_cons_succ, Act.put, List.setIfInBounds_toArray, List.set_cons_zero, List.set_cons_succ])
            refine' wpAnyH_take (i := 6) (v := _) rfl (by kernel_rfl) (by kernel_rfl) (by kernel_rfl) (fun _ _ _ h => h) (Or.inl ⟨by rfl, ?taq19⟩) (by assumption) ?tbq19
            case taq19 =>
              intro wS hSw
              (try dsimp only at hSw)
              (have c0 := (hSw.cell (p := ⟨w.heap.size, 0, none⟩) hwlt).trans c0; have c1 := (hSw.cell (p := ⟨w.heap.size, 1, none⟩) hwlt).trans c1; have c2 := (hSw.cell (p := ⟨w.heap.size, 2, none⟩) hwlt).trans c2; have c3 := (hSw.cell (p := ⟨w.heap.size, 3, none⟩) hwlt).trans c3; go_simp)
              (try (with_reducible rfl))
            (try simp only [List.getElem_toArray, List.getElem_cons_zero, List.getElem_cons_succ, Act.put, List.setIfInBounds_toArray, List.set_cons_zero, List.set_cons_succ])
            clear c0 c1 c2 c3
            refine wpAnyH_ready (rs := [2, 7, 10]) (by kernel_rfl) (by simp) ?_
            refine AllReadyH.cons rfl (fun K9 hK9 => ?_) (AllReadyH.cons rfl (fun K9 hK9 => ?_) (AllReadyH.cons rfl (fun K9 hK9 => ?_) AllReadyH.nil))
            · (try simp only [List.getElem_toArray, List.getElem_cons_zero, List.getElem_cons_succ])
              go_simp
              have kx := KE0.out.empty
              (try simp only [World.size_alloc, heap_drew] at kx)
              have KE1 := Lib.hid kx
              clear kx
              refine hK9.out _ _ (KE1.out.bel) (fun hHeld9 => ?_)
              clear hK9 K9
              (try simp only [List.getElem_toArray, List.getElem_cons_zero, List.getElem_cons_succ, Act.put, List.setIfInBounds_toArray, List.set_cons_zero, List.set_cons_succ])
              refine wpAnyH_ready (rs := [5, 7, 10]) (by kernel_rfl) (by simp) ?_
              refine AllReadyH.cons rfl (fun K9 hK9 => ?_) (AllReadyH.cons rfl (fun K9 hK9 => ?_) (AllReadyH.cons rfl (fun K9 hK9 => ?_) AllReadyH.nil))
              · (try simp only [List.getElem_toArray, List.getElem_cons_zero, List.getElem_cons_succ])
                rw [if_pos (by rfl)]
                refine wp_extendN elem_layer (wd.drew.alloc (.cells #[] 43)) _ _ (by rfl) wd.heap.size 0 (.slice (some ⟨wd.heap.size, 0, none⟩) 0 0) [] (by rfl) KE1.out.own w.heap.size ls.length _ (ls.flatMap LayV.cells) (by rfl) (HL.out.rd.below (HB3.out.trans (KE1.out.bel.mono HB3.out.size))) HFL.out (cells_one ls) (by unfold maxLen; omega) (by omega) KE1.out.bel.size ?_
                intro A7 c7 w7 hown7 hgrow7 hfr7
                rw [Nat.zero_add, List.nil_append] at hown7
                rw [Nat.zero_add] at hfr7
                rw [Nat.zero_add]
                have KE2 := Lib.hid (KE1.out.grow hown7 hgrow7 hfr7)
                clear hown7 hgrow7 hfr7
                refine hK9.out _ _ (KE2.out.bel) (fun hHeld9 => ?_)
                clear hK9 K9
                (try simp only [List.getElem_toArray, List.getElem_cons_zero, List.getElem_cons_succ, Act.put, List.setIfInBounds_toArray, List.set_cons_zero, List.set_cons_succ])
                refine wpAnyH_ready (rs := [7, 10]) (by kernel_rfl) (by simp) ?_
                refine AllReadyH.cons rfl (fun K9 hK9 => ?_) (AllReadyH.cons rfl (fun K9 hK9 => ?_) AllReadyH.nil)
                · (try simp only [List.getElem_toArray, List.getElem_cons_zero, List.getElem_cons_succ])
                  go_simp
                  have kx := KE2.out.alloc 43 #[.int .i64 5, .int .i64 0, .int .i64 0, .int .i64 0, .int .i64 0, .int .i64 0, .bool false]
                  (try simp only [World.size_alloc, heap_drew] at kx)
                  have KE3 := Lib.hid kx
                  clear kx
                  refine hK9.out _ _ (KE3.out.bel) (fun hHeld9 => ?_)
                  clear hK9 K9
                  (try simp only [List.getElem_toArray, List.getElem_cons_zero, List.getElem_cons_succ, Act.put, List.setIfInBounds_toArray, List.set_cons_zero, List.set_cons_succ])
                  refine wpAnyH_ready (rs := [8, 10]) (by kernel_rfl) (by simp) ?_
                  refine AllReadyH.cons rfl (fun K9 hK9 => ?_) (AllReadyH.cons rfl (fun K9 hK9 => ?_) AllReadyH.nil)
                  · (try simp only [List.getElem_toArray, List.getElem_cons_zero, List.getElem_cons_succ])
                    rw [if_pos (by rfl)]
                    have kq := (KE3.out.blk _ (.head _)).1
                    refine wp_extendN elem_layer (w7.alloc (.cells #[.int .i64 5, .int .i64 0, .int .i64 0, .int .i64 0, .int .i64 0, .int .i64 0, .bool false] 43)) _ _ (by rfl) wd.heap.size ls.length (.slice A7 ls.length c7) (ls.flatMap LayV.cells) (by rfl) KE3.out.own _ 1 _ (LayV.cells ⟨5, 0, 0, 0, 0, 0, false⟩) (by rfl) (kq.readsN (n := 1) rfl (by unfold maxLen; omega)) rfl (by simp [LayV.cells, Value.oneCell']) (by unfold maxLen; omega) (by omega) KE3.out.bel.size ?_
                    intro A8 c8 w8 hown8 hgrow8 hfr8
                    have KE4 := Lib.hid (KE3.out.grow hown8 hgrow8 hfr8)
                    clear hown8 hgrow8 hfr8 kq
                    refine hK9.out _ _ (KE4.out.bel) (fun hHeld9 => ?_)
                    clear hK9 K9
                    (try simp only [List.getElem_toArray, List.getElem_cons_zero, List.getElem_cons_succ, Act.put, List.setIfInBounds_toArray, List.set_cons_zero, List.set_cons_succ])
                    refine' wpAnyH_take (i := 9) (v := _) rfl (by kernel_rfl) (by kernel_rfl) (by kernel_rfl) (fun _ _ _ h => h) (Or.inl ⟨by rfl, ?taq20⟩) (by assumption) ?tbq20
                    case taq20 =>
                      intro wS hSw
                      (try dsimp only at hSw)
                      go_simp
                      (try (with_reducible rfl))
                    (try simp only [List.getElem_toArray, List.getElem_cons_zero, List.getElem_cons_succ, Act.put, List.setIfInBounds_toArray, List.set_cons_zero, List.set_cons_succ])
                    refine wpAnyH_ready (rs := [10]) (by kernel_rfl) (by simp) ?_
                    refine AllReadyH.cons rfl (fun K9 hK9 => ?_) AllReadyH.nil
                    (try simp only [List.getElem_toArray, List.getElem_cons_zero, List.getElem_cons_succ])
                    go_simp
                    have kx := KE4.out.alloc 25 #[.int .i64 0, .int .i64 0, .int .i64 0, .slice none 0 0]
                    (try simp only [World.size_alloc, heap_drew] at kx)
                    have KE5 := Lib.hid kx
                    clear kx
                    refine hK9.out _ _ (KE5.out.bel) (fun hHeld9 => ?_)
                    clear hK9 K9
                    (try simp only [List.getElem_toArray, List.getElem_cons_zero, List.getElem_cons_succ, Act.put, List.setIfInBounds_toArray, List.set_cons_zero, List.set_cons_succ])
                    refine wpAnyH_ready (rs := [11]) (by kernel_rfl) (by simp) ?_
                    refine AllReadyH.cons rfl (fun K9 hK9 => ?_) AllReadyH.nil
                    have kx := (KE4.out.alloc 25 #[.int .i64 a, .int .i64 b, .int .i64 c, .slice A8 (ls.length + 1) c8]).only (.head _)
                    (try simp only [World.size_alloc, heap_drew] at kx)
                    have KE6 := Lib.hid kx
                    clear kx
                    (try simp only [List.getElem_toArray, List.getElem_cons_zero, List.getElem_cons_succ])
                    go_simp
                    refine hK9.out _ _ (KE6.out.bel) (fun hHeld9 => ?_)
                    clear hK9 K9
                    (try simp only [List.getElem_toArray, List.getElem_cons_zero, List.getElem_cons_succ, Act.put, List.setIfInBounds_toArray, List.set_cons_zero, List.set_cons_succ])
                    refine wpAnyH_done (by kernel_rfl) ?_ _
                    go_wp2_with fail
                    go_meet
                    exact ⟨_, A8, c8, rfl, KE6.out⟩
                  · (try simp only [List.getElem_toArray, List.getElem_cons_zero, List.getElem_cons_succ])
                    go_simp
                    have kx := KE3.out.alloc 25 #[.int .i64 0, .int .i64 0, .int .i64 0, .slice none 0 0]
                    (try simp only [World.size_alloc, heap_drew] at kx)
                    have KE7 := Lib.hid kx
                    clear kx
                    refine hK9.out _ _ (KE7.out.bel) (fun hHeld9 => ?_)
                    clear hK9 K9
                    (try simp only [List.getElem_toArray, List.getElem_cons_zero, List.getElem_cons_succ, Act.put, List.setIfInBounds_toArray, List.set_cons_zero, List.set_cons_succ])
                    refine wpAnyH_ready (rs := [8]) (by kernel_rfl) (by simp) ?_
                    refine AllReadyH.cons rfl (fun K9 hK9 => ?_) AllReadyH.nil
                    (try simp only [List.getElem_toArray, List.getElem_cons_zero, List.getElem_cons_succ])
                    rw [if_pos (by rfl)]
                    have kq := (KE7.out.blk _ (.tail _ (.head _))).1
                    refine wp_extendN elem_layer ((w7.alloc (.cells #[.int .i64 5, .int .i64 0, .int .i64 0, .int .i64 0, .int .i64 0, .int .i64 0, .bool false] 43)).alloc (.cells #[.int .i64 0, .int .i64 0, .int .i64 0, .slice none 0 0] 25)) _ _ (by rfl) wd.heap.size ls.length (.slice A7 ls.length c7) (ls.flatMap LayV.cells) (by rfl) KE7.out.own _ 1 _ (LayV.cells ⟨5, 0, 0, 0, 0, 0, false⟩) (by rfl) (kq.readsN (n := 1) rfl (by unfold maxLen; omega)) rfl (by simp [LayV.cells, Value.oneCell']) (by unfold maxLen; omega) (by omega) KE7.out.bel.size ?_
                    intro A8 c8 w8 hown8 hgrow8 hfr8
                    have KE8 := Lib.hid (KE7.out.grow hown8 hgrow8 hfr8)
                    clear hown8 hgrow8 hfr8 kq
                    refine hK9.out _ _ (KE8.out.bel) (fun hHeld9 => ?_)
                    clear hK9 K9
                    (try simp only [List.getElem_toArray, List.getElem_cons_zero, List.getElem_cons_succ, Act.put, List.setIfInBounds_toArray, List.set_cons_zero, List.set_cons_succ])
                    refine' wpAnyH_take (i := 9) (v := _) rfl (by kernel_rfl) (by kernel_rfl) (by kernel_rfl) (fun _ _ _ h => h) (Or.inl ⟨by rfl, ?taq21⟩) (by assumption) ?tbq21
                    case taq21 =>
                      intro wS hSw
                      (try dsimp only at hSw)
                      go_simp
                      (try (with_reducible rfl))
                    (try simp only [List.getElem_toArray, List.getElem_cons_zero, List.getElem_cons_succ, Act.put, List.setIfInBounds_toArray, List.set_cons_zero, List.set_cons_succ])
                    refine wpAnyH_ready (rs := [11]) (by kernel_rfl) (by simp) ?_
                    refine AllReadyH.cons rfl (fun K9 hK9 => ?_) AllReadyH.nil
                    have kq := (KE8.out.blk _ (.head _)).1
                    have y0 := kq.cell 0
                    have z0 := kq.free 0
                    have y1 := kq.cell 1
                    have z1 := kq.free 1
                    have y2 := kq.cell 2
                    have z2 := kq.free 2
                    have y3 := kq.cell 3
                    have z3 := kq.free 3
                    simp only [List.getElem?_cons_zero, List.getElem?_cons_succ] at y0 y1 y2 y3
                    clear kq
                    have KE9 := Lib.hid (((((KE8.out.only (.head _)).set 0 (.int .i64 a)).set 1 (.int .i64 b)).set 2 (.int .i64 c)).set 3 (.slice A8 (ls.length + 1) c8))
                    (try simp only [List.getElem_toArray, List.getElem_cons_zero, List.getElem_cons_succ])
                    go_simp
                    clear y0 y1 y2 y3 z0 z1 z2 z3
                    refine hK9.out _ _ (KE9.out.bel) (fun hHeld9 => ?_)
                    clear hK9 K9
                    (try simp only [List.getElem_toArray, List.getElem_cons_zero, List.getElem_cons_succ, Act.put, List.setIfInBounds_toArray, List.set_cons_zero, List.set_cons_succ])
                    refine wpAnyH_done (by kernel_rfl) ?_ _
                    go_wp2_with fail
                    go_meet
                    exact ⟨_, A8, c8, rfl, KE9.out⟩
                · (try simp only [List.getElem_toArray, List.getElem_cons_zero, List.getElem_cons_succ])
                  go_simp
                  have kx := KE2.out.alloc 25 #[.int .i64 0, .int .i64 0, .int .i64 0, .slice none 0 0]
                  (try simp only [World.size_alloc, heap_drew] at kx)
                  have KE10 := Lib.hid kx
                  clear kx
                  refine hK9.out _ _ (KE10.out.bel) (fun hHeld9 => ?_)
                  clear hK9 K9
                  (try simp only [List.getElem_toArray, List.getElem_cons_zero, List.getElem_cons_succ, Act.put, List.setIfInBounds_toArray, List.set_cons_zero, List.set_cons_succ])
                  refine wpAnyH_ready (rs := [7]) (by kernel_rfl) (by simp) ?_
                  refine AllReadyH.cons rfl (fun K9 hK9 => ?_) AllReadyH.nil
                  (try simp only [List.getElem_toArray, List.getElem_cons_zero, List.getElem_cons_succ])
                  go_simp
                  have kx := KE10.out.alloc 43 #[.int .i64 5, .int .i64 0, .int .i64 0, .int .i64 0, .int .i64 0, .int .i64 0, .bool false]
                  (try simp only [World.size_alloc, heap_drew] at kx)
                  have KE11 := Lib.hid kx
                  clear kx
                  refine hK9.out _ _ (KE11.out.bel) (fun hHeld9 => ?_)
                  clear hK9 K9
                  (try simp only [List.getElem_toArray, List.getElem_cons_zero, List.getElem_cons_succ, Act.put, List.setIfInBounds_toArray, List.set_cons_zero, List.set_cons_succ])
                  refine wpAnyH_ready (rs := [8]) (by kernel_rfl) (by simp) ?_
                  refine AllReadyH.cons rfl (fun K9 hK9 => ?_) AllReadyH.nil
                  (try simp only [List.getElem_toArray, List.getElem_cons_zero, List.getElem_cons_succ])
                  rw [if_pos (by rfl)]
                  have kq := (KE11.out.blk _ (.head _)).1
                  refine wp_extendN elem_layer ((w7.alloc (.cells #[.int .i64 0, .int .i64 0, .int .i64 0, .slice none 0 0] 25)).alloc (.cells #[.int .i64 5, .int .i64 0, .int .i64 0, .int .i64 0, .int .i64 0, .int .i64 0, .bool false] 43)) _ _ (by rfl) wd.heap.size ls.length (.slice A7 ls.length c7) (ls.flatMap LayV.cells) (by rfl) KE11.out.own _ 1 _ (LayV.cells ⟨5, 0, 0, 0, 0, 0, false⟩) (by rfl) (kq.readsN (n := 1) rfl (by unfold maxLen; omega)) rfl (by simp [LayV.cells, Value.oneCell']) (by unfold maxLen; omega) (by omega) KE11.out.bel.size ?_
                  intro A8 c8 w8 hown8 hgrow8 hfr8
                  have KE12 := Lib.hid (KE11.out.grow hown8 hgrow8 hfr8)
                  clear hown8 hgrow8 hfr8 kq
                  refine hK9.out _ _ (KE12.out.bel) (fun hHeld9 => ?_)
                  clear hK9 K9
                  (try simp only [List.getElem_toArray, List.getElem_cons_zero, List.getElem_cons_succ, Act.put, List.setIfInBounds_toArray, List.set_cons_zero, List.set_cons_succ])
                  refine' wpAnyH_take (i := 9) (v := _) rfl (by kernel_rfl) (by kernel_rfl) (by kernel_rfl) (fun _ _ _ h => h) (Or.inl ⟨by rfl, ?taq22⟩) (by assumption) ?tbq22
                  case taq22 =>
                    intro wS hSw
                    (try dsimp only at hSw)
                    go_simp
                    (try (with_reducible rfl))
                  (try simp only [List.getElem_toArray, List.getElem_cons_zero, List.getElem_cons_succ, Act.put, List.setIfInBounds_toArray, List.set_cons_zero, List.set_cons_succ])
                  refine wpAnyH_ready (rs := [11]) (by kernel_rfl) (by simp) ?_
                  refine AllReadyH.cons rfl (fun K9 hK9 => ?_) AllReadyH.nil
                  have kq := (KE12.out.blk _ (.tail _ (.head _))).1
                  have y0 := kq.cell 0
                  have z0 := kq.free 0
                  have y1 := kq.cell 1
                  have z1 := kq.free 1
                  have y2 := kq.cell 2
                  have z2 := kq.free 2
                  have y3 := kq.cell 3
                  have z3 := kq.free 3
                  simp only [List.getElem?_cons_zero, List.getElem?_cons_succ] at y0 y1 y2 y3
                  clear kq
                  have KE13 := Lib.hid (((((KE12.out.only (.tail _ (.head _))).set 0 (.int .i64 a)).set 1 (.int .i64 b)).set 2 (.int .i64 c)).set 3 (.slice A8 (ls.length + 1) c8))
                  (try simp only [List.getElem_toArray, List.getElem_cons_zero, List.getElem_cons_succ])
                  go_simp
                  clear y0 y1 y2 y3 z0 z1 z2 z3
                  refine hK9.out _ _ (KE13.out.bel) (fun hHeld9 => ?_)
                  clear hK9 K9
                  (try simp only [List.getElem_toArray, List.getElem_cons_zero, List.getElem_cons_succ, Act.put, List.setIfInBounds_toArray, List.set_cons_zero, List.set_cons_succ])
                  refine wpAnyH_done (by kernel_rfl) ?_ _
                  go_wp2_with fail
                  go_meet
                  exact ⟨_, A8, c8, rfl, KE13.out⟩
              · (try simp only [List.getElem_toArray, List.getElem_cons_zero, List.getElem_cons_succ])
                go_simp
                have kx := KE1.out.alloc 43 #[.int .i64 5, .int .i64 0, .int .i64 0, .int .i64 0, .int .i64 0, .int .i64 0, .bool false]
                (try simp only [World.size_alloc, heap_drew] at kx)
                have KE14 := Lib.hid kx
                clear kx
                refine hK9.out _ _ (KE14.out.bel) (fun hHeld9 => ?_)
                clear hK9 K9
                (try simp only [List.getElem_toArray, List.getElem_cons_zero, List.getElem_cons_succ, Act.put, List.setIfInBounds_toArray, List.set_cons_zero, List.set_cons_succ])
                refine wpAnyH_ready (rs := [5, 10]) (by kernel_rfl) (by simp) ?_
                refine AllReadyH.cons rfl (fun K9 hK9 => ?_) (AllReadyH.cons rfl (fun K9 hK9 => ?_) AllReadyH.nil)
                · (try simp only [List.getElem_toArray, List.getElem_cons_zero, List.getElem_cons_succ])
                  rw [if_pos (by rfl)]
                  refine wp_extendN elem_layer ((wd.drew.alloc (.cells #[] 43)).alloc (.cells #[.int .i64 5, .int .i64 0, .int .i64 0, .int .i64 0, .int .i64 0, .int .i64 0, .bool false] 43)) _ _ (by rfl) wd.heap.size 0 (.slice (some ⟨wd.heap.size, 0, none⟩) 0 0) [] (by rfl) KE14.out.own w.heap.size ls.length _ (ls.flatMap LayV.cells) (by rfl) (HL.out.rd.below (HB3.out.trans (KE14.out.bel.mono HB3.out.size))) HFL.out (cells_one ls) (by unfold maxLen; omega) (by omega) KE14.out.bel.size ?_
                  intro A7 c7 w7 hown7 hgrow7 hfr7
                  rw [Nat.zero_add, List.nil_append] at hown7
                  rw [Nat.zero_add] at hfr7
                  rw [Nat.zero_add]
                  have KE15 := Lib.hid (KE14.out.grow hown7 hgrow7 hfr7)
                  clear hown7 hgrow7 hfr7
                  refine hK9.out _ _ (KE15.out.bel) (fun hHeld9 => ?_)
                  clear hK9 K9
                  (try simp only [List.getElem_toArray, List.getElem_cons_zero, List.getElem_cons_succ, Act.put, List.setIfInBounds_toArray, List.set_cons_zero, List.set_cons_succ])
                  refine wpAnyH_ready (rs := [8, 10]) (by kernel_rfl) (by simp) ?_
                  refine AllReadyH.cons rfl (fun K9 hK9 => ?_) (AllReadyH.cons rfl (fun K9 hK9 => ?_) AllReadyH.nil)
                  · (try simp only [List.getElem_toArray, List.getElem_cons_zero, List.getElem_cons_succ])
                    rw [if_pos (by rfl)]
                    have kq := (KE15.out.blk _ (.head _)).1
                    refine wp_extendN elem_layer w7 _ _ (by rfl) wd.heap.size ls.length (.slice A7 ls.length c7) (ls.flatMap LayV.cells) (by rfl) KE15.out.own _ 1 _ (LayV.cells ⟨5, 0, 0, 0, 0, 0, false⟩) (by rfl) (kq.readsN (n := 1) rfl (by unfold maxLen; omega)) rfl (by simp [LayV.cells, Value.oneCell']) (by unfold maxLen; omega) (by omega) KE15.out.bel.size ?_
                    intro A8 c8 w8 hown8 hgrow8 hfr8
                    have KE16 := Lib.hid (KE15.out.grow hown8 hgrow8 hfr8)
                    clear hown8 hgrow8 hfr8 kq
                    refine hK9.out _ _ (KE16.out.bel) (fun hHeld9 => ?_)
                    clear hK9 K9
                    (try simp only [List.getElem_toArray, List.getElem_cons_zero, List.getElem_cons_succ, Act.put, List.setIfInBounds_toArray, List.set_cons_zero, List.set_cons_succ])
                    refine' wpAnyH_take (i := 9) (v := _) rfl (by kernel_rfl) (by kernel_rfl) (by kernel_rfl) (fun _ _ _ h => h) (Or.inl ⟨by rfl, ?taq23⟩) (by assumption) ?tbq23
                    case taq23 =>
                      intro wS hSw
                      (try dsimp only at hSw)
                      go_simp
                      (try (with_reducible rfl))
                    (try simp only [List.getElem_toArray, List.getElem_cons_zero, List.getElem_cons_succ, Act.put, List.setIfInBounds_toArray, List.set_cons_zero, List.set_cons_succ])
                    refine wpAnyH_ready (rs := [10]) (by kernel_rfl) (by simp) ?_
                    refine AllReadyH.cons rfl (fun K9 hK9 => ?_) AllReadyH.nil
                    (try simp only [List.getElem_toArray, List.getElem_cons_zero, List.getElem_cons_succ])
                    go_simp
                    have kx := KE16.out.alloc 25 #[.int .i64 0, .int .i64 0, .int .i64 0, .slice none 0 0]
                    (try simp only [World.size_alloc, heap_drew] at kx)
                    have KE17 := Lib.hid kx
                    clear kx
                    refine hK9.out _ _ (KE17.out.bel) (fun hHeld9 => ?_)
                    clear hK9 K9
                    (try simp only [List.getElem_toArray, List.getElem_cons_zero, List.getElem_cons_succ, Act.put, List.setIfInBounds_toArray, List.set_cons_zero, List.set_cons_succ])
                    refine wpAnyH_ready (rs := [11]) (by kernel_rfl) (by simp) ?_
                    refine AllReadyH.cons rfl (fun K9 hK9 => ?_) AllReadyH.nil
                    have kx := (KE16.out.alloc 25 #[.int .i64 a, .int .i64 b, .int .i64 c, .slice A8 (ls.length + 1) c8]).only (.head _)
                    (try simp only [World.size_alloc, heap_drew] at kx)
                    have KE18 := Lib.hid kx
                    clear kx
                    (try simp only [List.getElem_toArray, List.getElem_cons_zero, List.getElem_cons_succ])
                    go_simp
                    refine hK9.out _ _ (KE18.out.bel) (fun hHeld9 => ?_)
                    clear hK9 K9
                    (try simp only [List.getElem_toArray, List.getElem_cons_zero, List.getElem_cons_succ, Act.put, List.setIfInBounds_toArray, List.set_cons_zero, List.set_cons_succ])
                    refine wpAnyH_done (by kernel_rfl) ?_ _
                    go_wp2_with fail
                    go_meet
                    exact ⟨_, A8, c8, rfl, KE18.out⟩
                  · (try simp only [List.getElem_toArray, List.getElem_cons_zero, List.getElem_cons_succ])
                    go_simp
                    have kx := KE15.out.alloc 25 #[.int .i64 0, .int .i64 0, .int .i64 0, .slice none 0 0]
                    (try simp only [World.size_alloc, heap_drew] at kx)
                    have KE19 := Lib.hid kx
                    clear kx
                    refine hK9.out _ _ (KE19.out.bel) (fun hHeld9 => ?_)
                    clear hK9 K9
                    (try simp only [List.getElem_toArray, List.getElem_cons_zero, List.getElem_cons_succ, Act.put, List.setIfInBounds_toArray, List.set_cons_zero, List.set_cons_succ])
                    refine wpAnyH_ready (rs := [8]) (by kernel_rfl) (by simp) ?_
                    refine AllReadyH.cons rfl (fun K9 hK9 => ?_) AllReadyH.nil
                    (try simp only [List.getElem_toArray, List.getElem_cons_zero, List.getElem_cons_succ])
                    rw [if_pos (by rfl)]
                    have kq := (KE19.out.blk _ (.tail _ (.head _))).1
                    refine wp_extendN elem_layer (w7.alloc (.cells #[.int .i64 0, .int .i64 0, .int .i64 0, .slice none 0 0] 25)) _ _ (by rfl) wd.heap.size ls.length (.slice A7 ls.length c7) (ls.flatMap LayV.cells) (by rfl) KE19.out.own _ 1 _ (LayV.cells ⟨5, 0, 0, 0, 0, 0, false⟩) (by rfl) (kq.readsN (n := 1) rfl (by unfold maxLen; omega)) rfl (by simp [LayV.cells, Value.oneCell']) (by unfold maxLen; omega) (by omega) KE19.out.bel.size ?_
                    intro A8 c8 w8 hown8 hgrow8 hfr8
                    have KE20 := Lib.hid (KE19.out.grow hown8 hgrow8 hfr8)
                    clear hown8 hgrow8 hfr8 kq
                    refine hK9.out _ _ (KE20.out.bel) (fun hHeld9 => ?_)
                    clear hK9 K9
                    (try simp only [List.getElem_toArray, List.getElem_cons_zero, List.getElem_cons_succ, Act.put, List.setIfInBounds_toArray, List.set_cons_zero, List.set_cons_succ])
                    refine' wpAnyH_take (i := 9) (v := _) rfl (by kernel_rfl) (by kernel_rfl) (by kernel_rfl) (fun _ _ _ h => h) (Or.inl ⟨by rfl, ?taq24⟩) (by assumption) ?tbq24
                    case taq24 =>
                      intro wS hSw
                      (try dsimp only at hSw)
                      go_simp
                      (try (with_reducible rfl))
                    (try simp only [List.getElem_toArray, List.getElem_cons_zero, List.getElem_cons_succ, Act.put, List.setIfInBounds_toArray, List.set_cons_zero, List.set_cons_succ])
                    refine wpAnyH_ready (rs := [11]) (by kernel_rfl) (by simp) ?_
                    refine AllReadyH.cons rfl (fun K9 hK9 => ?_) AllReadyH.nil
                    have kq := (KE20.out.blk _ (.head _)).1
                    have y0 := kq.cell 0
                    have z0 := kq.free 0
                    have y1 := kq.cell 1
                    have z1 := kq.free 1
                    have y2 := kq.cell 2
                    have z2 := kq.free 2
                    have y3 := kq.cell 3
                    have z3 := kq.free 3
                    simp only [List.getElem?_cons_zero, List.getElem?_cons_succ] at y0 y1 y2 y3
                    clear kq
                    have KE21 := Lib.hid (((((KE20.out.only (.head _)).set 0 (.int .i64 a)).set 1 (.int .i64 b)).set 2 (.int .i64 c)).set 3 (.slice A8 (ls.length + 1) c8))
                    (try simp only [List.getElem_toArray, List.getElem_cons_zero, List.getElem_cons_succ])
                    go_simp
                    clear y0 y1 y2 y3 z0 z1 z2 z3
                    refine hK9.out _ _ (KE21.out.bel) (fun hHeld9 => ?_)
                    clear hK9 K9
                    (try simp only [List.getElem_toArray, List.getElem_cons_zero, List.getElem_cons_succ, Act.put, List.setIfInBounds_toArray, List.set_cons_zero, List.set_cons_succ])
                    refine wpAnyH_done (by kernel_rfl) ?_ _
                    go_wp2_with fail
                    go_meet
                    exact ⟨_, A8, c8, rfl, KE21.out⟩
                · (try simp only [List.getElem_toArray, List.getElem_cons_zero, List.getElem_cons_succ])
                  go_simp
                  have kx := KE14.out.alloc 25 #[.int .i64 0, .int .i64 0, .int .i64 0, .slice none 0 0]
                  (try simp only [World.size_alloc, heap_drew] at kx)
                  have KE22 := Lib.hid kx
                  clear kx
                  refine hK9.out _ _ (KE22.out.bel) (fun hHeld9 => ?_)
                  clear hK9 K9
                  (try simp only [List.getElem_toArray, List.getElem_cons_zero, List.getElem_cons_succ, Act.put, List.setIfInBounds_toArray, List.set_cons_zero, List.set_cons_succ])
                  refine wpAnyH_ready (rs := [5]) (by kernel_rfl) (by simp) ?_
                  refine AllReadyH.cons rfl (fun K9 hK9 => ?_) AllReadyH.nil
                  (try simp only [List.getElem_toArray, List.getElem_cons_zero, List.getElem_cons_succ])
                  rw [if_pos (by rfl)]
                  refine wp_extendN elem_layer (((wd.drew.alloc (.cells #[] 43)).alloc (.cells #[.int .i64 5, .int .i64 0, .int .i64 0, .int .i64 0, .int .i64 0, .int .i64 0, .bool false] 43)).alloc (.cells #[.int .i64 0, .int .i64 0, .int .i64 0, .slice none 0 0] 25)) _ _ (by rfl) wd.heap.size 0 (.slice (some ⟨wd.heap.size, 0, none⟩) 0 0) [] (by rfl) KE22.out.own w.heap.size ls.length _ (ls.flatMap LayV.cells) (by rfl) (HL.out.rd.below (HB3.out.trans (KE22.out.bel.mono HB3.out.size))) HFL.out (cells_one ls) (by unfold maxLen; omega) (by omega) KE22.out.bel.size ?_
                  intro A7 c7 w7 hown7 hgrow7 hfr7
                  rw [Nat.zero_add, List.nil_append] at hown7
                  rw [Nat.zero_add] at hfr7
                  rw [Nat.zero_add]
                  have KE23 := Lib.hid (KE22.out.grow hown7 hgrow7 hfr7)
                  clear hown7 hgrow7 hfr7
                  refine hK9.out _ _ (KE23.out.bel) (fun hHeld9 => ?_)
                  clear hK9 K9
                  (try simp only [List.getElem_toArray, List.getElem_cons_zero, List.getElem_cons_succ, Act.put, List.setIfInBounds_toArray, List.set_cons_zero, List.set_cons_succ])
                  refine wpAnyH_ready (rs := [8]) (by kernel_rfl) (by simp) ?_
                  refine AllReadyH.cons rfl (fun K9 hK9 => ?_) AllReadyH.nil
                  (try simp only [List.getElem_toArray, List.getElem_cons_zero, List.getElem_cons_succ])
                  rw [if_pos (by rfl)]
                  have kq := (KE23.out.blk _ (.tail _ (.head _))).1
                  refine wp_extendN elem_layer w7 _ _ (by rfl) wd.heap.size ls.length (.slice A7 ls.length c7) (ls.flatMap LayV.cells) (by rfl) KE23.out.own _ 1 _ (LayV.cells ⟨5, 0, 0, 0, 0, 0, false⟩) (by rfl) (kq.readsN (n := 1) rfl (by unfold maxLen; omega)) rfl (by simp [LayV.cells, Value.oneCell']) (by unfold maxLen; omega) (by omega) KE23.out.bel.size ?_
                  intro A8 c8 w8 hown8 hgrow8 hfr8
                  have KE24 := Lib.hid (KE23.out.grow hown8 hgrow8 hfr8)
                  clear hown8 hgrow8 hfr8 kq
                  refine hK9.out _ _ (KE24.out.bel) (fun hHeld9 => ?_)
                  clear hK9 K9
                  (try simp only [List.getElem_toArray, List.getElem_cons_zero, List.getElem_cons_succ, Act.put, List.setIfInBounds_toArray, List.set_cons_zero, List.set_cons_succ])
                  refine' wpAnyH_take (i := 9) (v := _) rfl (by kernel_rfl) (by kernel_rfl) (by kernel_rfl) (fun _ _ _ h => h) (Or.inl ⟨by rfl, ?taq25⟩) (by assumption) ?tbq25
                  case taq25 =>
                    intro wS hSw
                    (try dsimp only at hSw)
                    go_simp
                    (try (with_reducible rfl))
                  (try simp only [List.getElem_toArray, List.getElem_cons_zero, List.getElem_cons_succ, Act.put, List.setIfInBounds_toArray, List.set_cons_zero, List.set_cons_succ])
                  refine wpAnyH_ready (rs := [11]) (by kernel_rfl) (by simp) ?_
                  refine AllReadyH.cons rfl (fun K9 hK9 => ?_) AllReadyH.nil
                  have kq := (KE24.out.blk _ (.head _)).1
                  have y0 := kq.cell 0
                  have z0 := kq.free 0
                  have y1 := kq.cell 1
                  have z1 := kq.free 1
                  have y2 := kq.cell 2
                  have z2 := kq.free 2
                  have y3 := kq.cell 3
                  have z3 := kq.free 3
                  simp only [List.getElem?_cons_zero, List.getElem?_cons_succ] at y0 y1 y2 y3
                  clear kq
                  have KE25 := Lib.hid (((((KE24.out.only (.head _)).set 0 (.int .i64 a)).set 1 (.int .i64 b)).set 2 (.int .i64 c)).set 3 (.slice A8 (ls.length + 1) c8))
                  (try simp only [List.getElem_toArray, List.getElem_cons_zero, List.getElem_cons_succ])
                  go_simp
                  clear y0 y1 y2 y3 z0 z1 z2 z3
                  refine hK9.out _ _ (KE25.out.bel) (fun hHeld9 => ?_)
                  clear hK9 K9
                  (try simp only [List.getElem_toArray, List.getElem_cons_zero, List.getElem_cons_succ, Act.put, List.setIfInBounds_toArray, List.set_cons_zero, List.set_cons_succ])
                  refine wpAnyH_done (by kernel_rfl) ?_ _
                  go_wp2_with fail
                  go_meet
                  exact ⟨_, A8, c8, rfl, KE25.out⟩
              · (try simp only [List.getElem_toArray, List.getElem_cons_zero, List.getElem_cons_succ])
                go_simp
                have kx := KE1.out.alloc 25 #[.int .i64 0, .int .i64 0, .int .i64 0, .slice none 0 0]
                (try simp only [World.size_alloc, heap_drew] at kx)
                have KE26 := Lib.hid kx
                clear kx
                refine hK9.out _ _ (KE26.out.bel) (fun hHeld9 => ?_)
                clear hK9 K9
                (try simp only [List.getElem_toArray, List.getElem_cons_zero, List.getElem_cons_succ, Act.put, List.setIfInBounds_toArray, List.set_cons_zero, List.set_cons_succ])
                refine wpAnyH_ready (rs := [5, 7]) (by kernel_rfl) (by simp) ?_
                refine AllReadyH.cons rfl (fun K9 hK9 => ?_) (AllReadyH.cons rfl (fun K9 hK9 => ?_) AllReadyH.nil)
                · (try simp only [List.getElem_toArray, List.getElem_cons_zero, List.getElem_cons_succ])
                  rw [if_pos (by rfl)]
                  refine wp_extendN elem_layer ((wd.drew.alloc (.cells #[] 43)).alloc (.cells #[.int .i64 0, .int .i64 0, .int .i64 0, .slice none 0 0] 25)) _ _ (by rfl) wd.heap.size 0 (.slice (some ⟨wd.heap.size, 0, none⟩) 0 0) [] (by rfl) KE26.out.own w.heap.size ls.length _ (ls.flatMap LayV.cells) (by rfl) (HL.out.rd.below (HB3.out.trans (KE26.out.bel.mono HB3.out.size))) HFL.out (cells_one ls) (by unfold maxLen; omega) (by omega) KE26.out.bel.size ?_
                  intro A7 c7 w7 hown7 hgrow7 hfr7
                  rw [Nat.zero_add, List.nil_append] at hown7
                  rw [Nat.zero_add] at hfr7
                  rw [Nat.zero_add]
                  have KE27 := Lib.hid (KE26.out.grow hown7 hgrow7 hfr7)
                  clear hown7 hgrow7 hfr7
                  refine hK9.out _ _ (KE27.out.bel) (fun hHeld9 => ?_)
                  clear hK9 K9
                  (try simp only [List.getElem_toArray, List.getElem_cons_zero, List.getElem_cons_succ, Act.put, List.setIfInBounds_toArray, List.set_cons_zero, List.set_cons_succ])
                  refine wpAnyH_ready (rs := [7]) (by kernel_rfl) (by simp) ?_
                  refine AllReadyH.cons rfl (fun K9 hK9 => ?_) AllReadyH.nil
                  (try simp only [List.getElem_toArray, List.getElem_cons_zero, List.getElem_cons_succ])
                  go_simp
                  have kx := KE27.out.alloc 43 #[.int .i64 5, .int .i64 0, .int .i64 0, .int .i64 0, .int .i64 0, .int .i64 0, .bool false]
                  (try simp only [World.size_alloc, heap_drew] at kx)
                  have KE28 := Lib.hid kx
                  clear kx
                  refine hK9.out _ _ (KE28.out.bel) (fun hHeld9 => ?_)
                  clear hK9 K9
                  (try simp only [List.getElem_toArray, List.getElem_cons_zero, List.getElem_cons_succ, Act.put, List.setIfInBounds_toArray, List.set_cons_zero, List.set_cons_succ])
                  refine wpAnyH_ready (rs := [8]) (by kernel_rfl) (by simp) ?_
                  refine AllReadyH.cons rfl (fun K9 hK9 => ?_) AllReadyH.nil
                  (try simp only [List.getElem_toArray, List.getElem_cons_zero, List.getElem_cons_succ])
                  rw [if_pos (by rfl)]
                  have kq := (KE28.out.blk _ (.head _)).1
                  refine wp_extendN elem_layer (w7.alloc (.cells #[.int .i64 5, .int .i64 0, .int .i64 0, .int .i64 0, .int .i64 0, .int .i64 0, .bool false] 43)) _ _ (by rfl) wd.heap.size ls.length (.slice A7 ls.length c7) (ls.flatMap LayV.cells) (by rfl) KE28.out.own _ 1 _ (LayV.cells ⟨5, 0, 0, 0, 0, 0, false⟩) (by rfl) (kq.readsN (n := 1) rfl (by unfold maxLen; omega)) rfl (by simp [LayV.cells, Value.oneCell']) (by unfold maxLen; omega) (by omega) KE28.out.bel.size ?_
                  intro A8 c8 w8 hown8 hgrow8 hfr8
                  have KE29 := Lib.hid (KE28.out.grow hown8 hgrow8 hfr8)
                  clear hown8 hgrow8 hfr8 kq
                  refine hK9.out _ _ (KE29.out.bel) (fun hHeld9 => ?_)
                  clear hK9 K9
                  (try simp only [List.getElem_toArray, List.getElem_cons_zero, List.getElem_cons_succ, Act.put, List.setIfInBounds_toArray, List.set_cons_zero, List.set_cons_succ])
                  refine' wpAnyH_take (i := 9) (v := _) rfl (by kernel_rfl) (by kernel_rfl) (by kernel_rfl) (fun _ _ _ h => h) (Or.inl ⟨by rfl, ?taq26⟩) (by assumption) ?tbq26
                  case taq26 =>
                    intro wS hSw
                    (try dsimp only at hSw)
                    go_simp
                    (try (with_reducible rfl))
                  (try simp only [List.getElem_toArray, List.getElem_cons_zero, List.getElem_cons_succ, Act.put, List.setIfInBounds_toArray, List.set_cons_zero, List.set_cons_succ])
                  refine wpAnyH_ready (rs := [11]) (by kernel_rfl) (by simp) ?_
                  refine AllReadyH.cons rfl (fun K9 hK9 => ?_) AllReadyH.nil
                  have kq := (KE29.out.blk _ (.tail _ (.head _))).1
                  have y0 := kq.cell 0
                  have z0 := kq.free 0
                  have y1 := kq.cell 1
                  have z1 := kq.free 1
                  have y2 := kq.cell 2
                  have z2 := kq.free 2
                  have y3 := kq.cell 3
                  have z3 := kq.free 3
                  simp only [List.getElem?_cons_zero, List.getElem?_cons_succ] at y0 y1 y2 y3
                  clear kq
                  have KE30 := Lib.hid (((((KE29.out.only (.tail _ (.head _))).set 0 (.int .i64 a)).set 1 (.int .i64 b)).set 2 (.int .i64 c)).set 3 (.slice A8 (ls.length + 1) c8))
                  (try simp only [List.getElem_toArray, List.getElem_cons_zero, List.getElem_cons_succ])
                  go_simp
                  clear y0 y1 y2 y3 z0 z1 z2 z3
                  refine hK9.out _ _ (KE30.out.bel) (fun hHeld9 => ?_)
                  clear hK9 K9
                  (try simp only [List.getElem_toArray, List.getElem_cons_zero, List.getElem_cons_succ, Act.put, List.setIfInBounds_toArray, List.set_cons_zero, List.set_cons_succ])
                  refine wpAnyH_done (by kernel_rfl) ?_ _
                  go_wp2_with fail
                  go_meet
                  exact ⟨_, A8, c8, rfl, KE30.out⟩
                · (try simp only [List.getElem_toArray, List.getElem_cons_zero, List.getElem_cons_succ])
                  go_simp
                  have kx := KE26.out.alloc 43 #[.int .i64 5, .int .i64 0, .int .i64 0, .int .i64 0, .int .i64 0, .int .i64 0, .bool false]
                  (try simp only [World.size_alloc, heap_drew] at kx)
                  have KE31 := Lib.hid kx
                  clear kx
                  refine hK9.out _ _ (KE31.out.bel) (fun hHeld9 => ?_)
                  clear hK9 K9
                  (try simp only [List.getElem_toArray, List.getElem_cons_zero, List.getElem_cons_succ, Act.put, List.setIfInBounds_toArray, List.set_cons_zero, List.set_cons_succ])
                  refine wpAnyH_ready (rs := [5]) (by kernel_rfl) (by simp) ?_
                  refine AllReadyH.cons rfl (fun K9 hK9 => ?_) AllReadyH.nil
                  (try simp only [List.getElem_toArray, List.getElem_cons_zero, List.getElem_cons_succ])
                  rw [if_pos (by rfl)]
                  refine wp_extendN elem_layer (((wd.drew.alloc (.cells #[] 43)).alloc (.cells #[.int .i64 0, .int .i64 0, .int .i64 0, .slice none 0 0] 25)).alloc (.cells #[.int .i64 5, .int .i64 0, .int .i64 0, .int .i64 0, .int .i64 0, .int .i64 0, .bool false] 43)) _ _ (by rfl) wd.heap.size 0 (.slice (some ⟨wd.heap.size, 0, none⟩) 0 0) [] (by rfl) KE31.out.own w.heap.size ls.length _ (ls.flatMap LayV.cells) (by rfl) (HL.out.rd.below (HB3.out.trans (KE31.out.bel.mono HB3.out.size))) HFL.out (cells_one ls) (by unfold maxLen; omega) (by omega) KE31.out.bel.size ?_
                  intro A7 c7 w7 hown7 hgrow7 hfr7
                  rw [Nat.zero_add, List.nil_append] at hown7
                  rw [Nat.zero_add] at hfr7
                  rw [Nat.zero_add]
                  have KE32 := Lib.hid (KE31.out.grow hown7 hgrow7 hfr7)
                  clear hown7 hgrow7 hfr7
                  refine hK9.out _ _ (KE32.out.bel) (fun hHeld9 => ?_)
                  clear hK9 K9
                  (try simp only [List.getElem_toArray, List.getElem_cons_zero, List.getElem_cons_succ, Act.put, List.setIfInBounds_toArray, List.set_cons_zero, List.set_cons_succ])
                  refine wpAnyH_ready (rs := [8]) (by kernel_rfl) (by simp) ?_
                  refine AllReadyH.cons rfl (fun K9 hK9 => ?_) AllReadyH.nil
                  (try simp only [List.getElem_toArray, List.getElem_cons_zero, List.getElem_cons_succ])
                  rw [if_pos (by rfl)]
                  have kq := (KE32.out.blk _ (.head _)).1
                  refine wp_extendN elem_layer w7 _ _ (by rfl) wd.heap.size ls.length (.slice A7 ls.length c7) (ls.flatMap LayV.cells) (by rfl) KE32.out.own _ 1 _ (LayV.cells ⟨5, 0, 0, 0, 0, 0, false⟩) (by rfl) (kq.readsN (n := 1) rfl (by unfold maxLen; omega)) rfl (by simp [LayV.cells, Value.oneCell']) (by unfold maxLen; omega) (by omega) KE32.out.bel.size ?_
                  intro A8 c8 w8 hown8 hgrow8 hfr8
                  have KE33 := Lib.hid (KE32.out.grow hown8 hgrow8 hfr8)
                  clear hown8 hgrow8 hfr8 kq
                  refine hK9.out _ _ (KE33.out.bel) (fun hHeld9 => ?_)
                  clear hK9 K9
                  (try simp only [List.getElem_toArray, List.getElem_cons_zero, List.getElem_cons_succ, Act.put, List.setIfInBounds_toArray, List.set_cons_zero, List.set_cons_succ])
                  refine' wpAnyH_take (i := 9) (v := _) rfl (by kernel_rfl) (by kernel_rfl) (by kernel_rfl) (fun _ _ _ h => h) (Or.inl ⟨by rfl, ?taq27⟩) (by assumption) ?tbq27
                  case taq27 =>
                    intro wS hSw
                    (try dsimp only at hSw)
                    go_simp
                    (try (with_reducible rfl))
                  (try simp only [List.getElem_toArray, List.getElem_cons_zero, List.getElem_cons_succ, Act.put, List.setIfInBounds_toArray, List.set_cons_zero, List.set_cons_succ])
                  refine wpAnyH_ready (rs := [11]) (by kernel_rfl) (by simp) ?_
                  refine AllReadyH.cons rfl (fun K9 hK9 => ?_) AllReadyH.nil
                  have kq := (KE33.out.blk _ (.tail _ (.head _))).1
                  have y0 := kq.cell 0
                  have z0 := kq.free 0
                  have y1 := kq.cell 1
                  have z1 := kq.free 1
                  have y2 := kq.cell 2
                  have z2 := kq.free 2
                  have y3 := kq.cell 3
                  have z3 := kq.free 3
                  simp only [List.getElem?_cons_zero, List.getElem?_cons_succ] at y0 y1 y2 y3
                  clear kq
                  have KE34 := Lib.hid (((((KE33.out.only (.tail _ (.head _))).set 0 (.int .i64 a)).set 1 (.int .i64 b)).set 2 (.int .i64 c)).set 3 (.slice A8 (ls.length + 1) c8))
                  (try simp only [List.getElem_toArray, List.getElem_cons_zero, List.getElem_cons_succ])
                  go_simp
                  clear y0 y1 y2 y3 z0 z1 z2 z3
                  refine hK9.out _ _ (KE34.out.bel) (fun hHeld9 => ?_)
                  clear hK9 K9
                  (try simp only [List.getElem_toArray, List.getElem_cons_zero, List.getElem_cons_succ, Act.put, List.setIfInBounds_toArray, List.set_cons_zero, List.set_cons_succ])
                  refine wpAnyH_done (by kernel_rfl) ?_ _
                  go_wp2_with fail
                  go_meet
                  exact ⟨_, A8, c8, rfl, KE34.out⟩
            · (try simp only [List.getElem_toArray, List.getElem_cons_zero, List.getElem_cons_succ])
              go_simp
              have kx := KE0.out.alloc 43 #[.int .i64 5, .int .i64 0, .int .i64 0, .int .i64 0, .int .i64 0, .int .i64 0, .bool false]
              (try simp only [World.size_alloc, heap_drew] at kx)
              have KE35 := Lib.hid kx
              clear kx
              refine hK9.out _ _ (KE35.out.bel) (fun hHeld9 => ?_)
              clear hK9 K9
              (try simp only [List.getElem_toArray, List.getElem_cons_zero, List.getElem_cons_succ, Act.put, List.setIfInBounds_toArray, List.set_cons_zero, List.set_cons_succ])
              refine wpAnyH_ready (rs := [2, 10]) (by kernel_rfl) (by simp) ?_
              refine AllReadyH.cons rfl (fun K9 hK9 => ?_) (AllReadyH.cons rfl (fun K9 hK9 => ?_) AllReadyH.nil)
              · (try simp only [List.getElem_toArray, List.getElem_cons_zero, List.getElem_cons_succ])
                go_simp
                have kx := KE35.out.empty
                (try simp only [World.size_alloc, heap_drew] at kx)
                have KE36 := Lib.hid kx
                clear kx
                refine hK9.out _ _ (KE36.out.bel) (fun hHeld9 => ?_)
                clear hK9 K9
                (try simp only [List.getElem_toArray, List.getElem_cons_zero, List.getElem_cons_succ, Act.put, List.setIfInBounds_toArray, List.set_cons_zero, List.set_cons_succ])
                refine wpAnyH_ready (rs := [5, 10]) (by kernel_rfl) (by simp) ?_
                refine AllReadyH.cons rfl (fun K9 hK9 => ?_) (AllReadyH.cons rfl (fun K9 hK9 => ?_) AllReadyH.nil)
                · (try simp only [List.getElem_toArray, List.getElem_cons_zero, List.getElem_cons_succ])
                  rw [if_pos (by rfl)]
                  refine wp_extendN elem_layer ((wd.drew.alloc (.cells #[.int .i64 5, .int .i64 0, .int .i64 0, .int .i64 0, .int .i64 0, .int .i64 0, .bool false] 43)).alloc (.cells #[] 43)) _ _ (by rfl) wd.heap.size 0 (.slice (some ⟨wd.heap.size + 1, 0, none⟩) 0 0) [] (by rfl) KE36.out.own w.heap.size ls.length _ (ls.flatMap LayV.cells) (by rfl) (HL.out.rd.below (HB3.out.trans (KE36.out.bel.mono HB3.out.size))) HFL.out (cells_one ls) (by unfold maxLen; omega) (by omega) KE36.out.bel.size ?_
                  intro A7 c7 w7 hown7 hgrow7 hfr7
                  rw [Nat.zero_add, List.nil_append] at hown7
                  rw [Nat.zero_add] at hfr7
                  rw [Nat.zero_add]
                  have KE37 := Lib.hid (KE36.out.grow hown7 hgrow7 hfr7)
                  clear hown7 hgrow7 hfr7
                  refine hK9.out _ _ (KE37.out.bel) (fun hHeld9 => ?_)
                  clear hK9 K9
                  (try simp only [List.getElem_toArray, List.getElem_cons_zero, List.getElem_cons_succ, Act.put, List.setIfInBounds_toArray, List.set_cons_zero, List.set_cons_succ])
                  refine wpAnyH_ready (rs := [8, 10]) (by kernel_rfl) (by simp) ?_
                  refine AllReadyH.cons rfl (fun K9 hK9 => ?_) (AllReadyH.cons rfl (fun K9 hK9 => ?_) AllReadyH.nil)
                  · (try simp only [List.getElem_toArray, List.getElem_cons_zero, List.getElem_cons_succ])
                    rw [if_pos (by rfl)]
                    have kq := (KE37.out.blk _ (.head _)).1
                    refine wp_extendN elem_layer w7 _ _ (by rfl) wd.heap.size ls.length (.slice A7 ls.length c7) (ls.flatMap LayV.cells) (by rfl) KE37.out.own _ 1 _ (LayV.cells ⟨5, 0, 0, 0, 0, 0, false⟩) (by rfl) (kq.readsN (n := 1) rfl (by unfold maxLen; omega)) rfl (by simp [LayV.cells, Value.oneCell']) (by unfold maxLen; omega) (by omega) KE37.out.bel.size ?_
                    intro A8 c8 w8 hown8 hgrow8 hfr8
                    have KE38 := Lib.hid (KE37.out.grow hown8 hgrow8 hfr8)
                    clear hown8 hgrow8 hfr8 kq
                    refine hK9.out _ _ (KE38.out.bel) (fun hHeld9 => ?_)
                    clear hK9 K9
                    (try simp only [List.getElem_toArray, List.getElem_cons_zero, List.getElem_cons_succ, Act.put, List.setIfInBounds_toArray, List.set_cons_zero, List.set_cons_succ])
                    refine' wpAnyH_take (i := 9) (v := _) rfl (by kernel_rfl) (by kernel_rfl) (by kernel_rfl) (fun _ _ _ h => h) (Or.inl ⟨by rfl, ?taq28⟩) (by assumption) ?tbq28
                    case taq28 =>
                      intro wS hSw
                      (try dsimp only at hSw)
                      go_simp
                      (try (with_reducible rfl))
                    (try simp only [List.getElem_toArray, List.getElem_cons_zero, List.getElem_cons_succ, Act.put, List.setIfInBounds_toArray, List.set_cons_zero, List.set_cons_succ])
                    refine wpAnyH_ready (rs := [10]) (by kernel_rfl) (by simp) ?_
                    refine AllReadyH.cons rfl (fun K9 hK9 => ?_) AllReadyH.nil
                    (try simp only [List.getElem_toArray, List.getElem_cons_zero, List.getElem_cons_succ])
                    go_simp
                    have kx := KE38.out.alloc 25 #[.int .i64 0, .int .i64 0, .int .i64 0, .slice none 0 0]
                    (try simp only [World.size_alloc, heap_drew] at kx)
                    have KE39 := Lib.hid kx
                    clear kx
                    refine hK9.out _ _ (KE39.out.bel) (fun hHeld9 => ?_)
                    clear hK9 K9
                    (try simp only [List.getElem_toArray, List.getElem_cons_zero, List.getElem_cons_succ, Act.put, List.setIfInBounds_toArray, List.set_cons_zero, List.set_cons_succ])
                    refine wpAnyH_ready (rs := [11]) (by kernel_rfl) (by simp) ?_
                    refine AllReadyH.cons rfl (fun K9 hK9 => ?_) AllReadyH.nil
                    have kx := (KE38.out.alloc 25 #[.int .i64 a, .int .i64 b, .int .i64 c, .slice A8 (ls.length + 1) c8]).only (.head _)
                    (try simp only [World.size_alloc, heap_drew] at kx)
                    have KE40 := Lib.hid kx
                    clear kx
                    (try simp only [List.getElem_toArray, List.getElem_cons_zero, List.getElem_cons_succ])
                    go_simp
                    refine hK9.out _ _ (KE40.out.bel) (fun hHeld9 => ?_)
                    clear hK9 K9
                    (try simp only [List.getElem_toArray, List.getElem_cons_zero, List.getElem_cons_succ, Act.put, List.setIfInBounds_toArray, List.set_cons_zero, List.set_cons_succ])
                    refine wpAnyH_done (by kernel_rfl) ?_ _
                    go_wp2_with fail
                    go_meet
                    exact ⟨_, A8, c8, rfl, KE40.out⟩
                  · (try simp only [List.getElem_toArray, List.getElem_cons_zero, List.getElem_cons_succ])
                    go_simp
                    have kx := KE37.out.alloc 25 #[.int .i64 0, .int .i64 0, .int .i64 0, .slice none 0 0]
                    (try simp only [World.size_alloc, heap_drew] at kx)
                    have KE41 := Lib.hid kx
                    clear kx
                    refine hK9.out _ _ (KE41.out.bel) (fun hHeld9 => ?_)
                    clear hK9 K9
                    (try simp only [List.getElem_toArray, List.getElem_cons_zero, List.getElem_cons_succ, Act.put, List.setIfInBounds_toArray, List.set_cons_zero, List.set_cons_succ])
                    refine wpAnyH_ready (rs := [8]) (by kernel_rfl) (by simp) ?_
                    refine AllReadyH.cons rfl (fun K9 hK9 => ?_) AllReadyH.nil
                    (try simp only [List.getElem_toArray, List.getElem_cons_zero, List.getElem_cons_succ])
                    rw [if_pos (by rfl)]
                    have kq := (KE41.out.blk _ (.tail _ (.head _))).1
                    refine wp_extendN elem_layer (w7.alloc (.cells #[.int .i64 0, .int .i64 0, .int .i64 0, .slice none 0 0] 25)) _ _ (by rfl) wd.heap.size ls.length (.slice A7 ls.length c7) (ls.flatMap LayV.cells) (by rfl) KE41.out.own _ 1 _ (LayV.cells ⟨5, 0, 0, 0, 0, 0, false⟩) (by rfl) (kq.readsN (n := 1) rfl (by unfold maxLen; omega)) rfl (by simp [LayV.cells, Value.oneCell']) (by unfold maxLen; omega) (by omega) KE41.out.bel.size ?_
                    intro A8 c8 w8 hown8 hgrow8 hfr8
                    have KE42 := Lib.hid (KE41.out.grow hown8 hgrow8 hfr8)
                    clear hown8 hgrow8 hfr8 kq
                    refine hK9.out _ _ (KE42.out.bel) (fun hHeld9 => ?_)
                    clear hK9 K9
                    (try simp only [List.getElem_toArray, List.getElem_cons_zero, List.getElem_cons_succ, Act.put, List.setIfInBounds_toArray, List.set_cons_zero, List.set_cons_succ])
                    refine' wpAnyH_take (i := 9) (v := _) rfl (by kernel_rfl) (by kernel_rfl) (by kernel_rfl) (fun _ _ _ h => h) (Or.inl ⟨by rfl, ?taq29⟩) (by assumption) ?tbq29
                    case taq29 =>
                      intro wS hSw
                      (try dsimp only at hSw)
                      go_simp
                      (try (with_reducible rfl))
                    (try simp only [List.getElem_toArray, List.getElem_cons_zero, List.getElem_cons_succ, Act.put, List.setIfInBounds_toArray, List.set_cons_zero, List.set_cons_succ])
                    refine wpAnyH_ready (rs := [11]) (by kernel_rfl) (by simp) ?_
                    refine AllReadyH.cons rfl (fun K9 hK9 => ?_) AllReadyH.nil
                    have kq := (KE42.out.blk _ (.head _)).1
                    have y0 := kq.cell 0
                    have z0 := kq.free 0
                    have y1 := kq.cell 1
                    have z1 := kq.free 1
                    have y2 := kq.cell 2
                    have z2 := kq.free 2
                    have y3 := kq.cell 3
                    have z3 := kq.free 3
                    simp only [List.getElem?_cons_zero, List.getElem?_cons_succ] at y0 y1 y2 y3
                    clear kq
                    have KE43 := Lib.hid (((((KE42.out.only (.head _)).set 0 (.int .i64 a)).set 1 (.int .i64 b)).set 2 (.int .i64 c)).set 3 (.slice A8 (ls.length + 1) c8))
                    (try simp only [List.getElem_toArray, List.getElem_cons_zero, List.getElem_cons_succ])
                    go_simp
                    clear y0 y1 y2 y3 z0 z1 z2 z3
                    refine hK9.out _ _ (KE43.out.bel) (fun hHeld9 => ?_)
                    clear hK9 K9
                    (try simp only [List.getElem_toArray, List.getElem_cons_zero, List.getElem_cons_succ, Act.put, List.setIfInBounds_toArray, List.set_cons_zero, List.set_cons_succ])
                    refine wpAnyH_done (by kernel_rfl) ?_ _
                    go_wp2_with fail
                    go_meet
                    exact ⟨_, A8, c8, rfl, KE43.out⟩
                · (try simp only [List.getElem_toArray, List.getElem_cons_zero, List.getElem_cons_succ])
                  go_simp
                  have kx := KE36.out.alloc 25 #[.int .i64 0, .int .i64 0, .int .i64 0, .slice none 0 0]
                  (try simp only [World.size_alloc, heap_drew] at kx)
                  have KE44 := Lib.hid kx
                  clear kx
                  refine hK9.out _ _ (KE44.out.bel) (fun hHeld9 => ?_)
                  clear hK9 K9
                  (try simp only [List.getElem_toArray, List.getElem_cons_zero, List.getElem_cons_succ, Act.put, List.setIfInBounds_toArray, List.set_cons_zero, List.set_cons_succ])
                  refine wpAnyH_ready (rs := [5]) (by kernel_rfl) (by simp) ?_
                  refine AllReadyH.cons rfl (fun K9 hK9 => ?_) AllReadyH.nil
                  (try simp only [List.getElem_toArray, List.getElem_cons_zero, List.getElem_cons_succ])
                  rw [if_pos (by rfl)]
                  refine wp_extendN elem_layer (((wd.drew.alloc (.cells #[.int .i64 5, .int .i64 0, .int .i64 0, .int .i64 0, .int .i64 0, .int .i64 0, .bool false] 43)).alloc (.cells #[] 43)).alloc (.cells #[.int .i64 0, .int .i64 0, .int .i64 0, .slice none 0 0] 25)) _ _ (by rfl) wd.heap.size 0 (.slice (some ⟨wd.heap.size + 1, 0, none⟩) 0 0) [] (by rfl) KE44.out.own w.heap.size ls.length _ (ls.flatMap LayV.cells) (by rfl) (HL.out.rd.below (HB3.out.trans (KE44.out.bel.mono HB3.out.size))) HFL.out (cells_one ls) (by unfold maxLen; omega) (by omega) KE44.out.bel.size ?_
                  intro A7 c7 w7 hown7 hgrow7 hfr7
                  rw [Nat.zero_add, List.nil_append] at hown7
                  rw [Nat.zero_add] at hfr7
                  rw [Nat.zero_add]
                  have KE45 := Lib.hid (KE44.out.grow hown7 hgrow7 hfr7)
                  clear hown7 hgrow7 hfr7
                  refine hK9.out _ _ (KE45.out.bel) (fun hHeld9 => ?_)
                  clear hK9 K9
                  (try simp only [List.getElem_toArray, List.getElem_cons_zero, List.getElem_cons_succ, Act.put, List.setIfInBounds_toArray, List.set_cons_zero, List.set_cons_succ])
                  refine wpAnyH_ready (rs := [8]) (by kernel_rfl) (by simp) ?_
                  refine AllReadyH.cons rfl (fun K9 hK9 => ?_) AllReadyH.nil
                  (try simp only [List.getElem_toArray, List.getElem_cons_zero, List.getElem_cons_succ])
                  rw [if_pos (by rfl)]
                  have kq := (KE45.out.blk _ (.tail _ (.head _))).1
                  refine wp_extendN elem_layer w7 _ _ (by rfl) wd.heap.size ls.length (.slice A7 ls.length c7) (ls.flatMap LayV.cells) (by rfl) KE45.out.own _ 1 _ (LayV.cells ⟨5, 0, 0, 0, 0, 0, false⟩) (by rfl) (kq.readsN (n := 1) rfl (by unfold maxLen; omega)) rfl (by simp [LayV.cells, Value.oneCell']) (by unfold maxLen; omega) (by omega) KE45.out.bel.size ?_
                  intro A8 c8 w8 hown8 hgrow8 hfr8
                  have KE46 := Lib.hid (KE45.out.grow hown8 hgrow8 hfr8)
                  clear hown8 hgrow8 hfr8 kq
                  refine hK9.out _ _ (KE46.out.bel) (fun hHeld9 => ?_)
                  clear hK9 K9
                  (try simp only [List.getElem_toArray, List.getElem_cons_zero, List.getElem_cons_succ, Act.put, List.setIfInBounds_toArray, List.set_cons_zero, List.set_cons_succ])
                  refine' wpAnyH_take (i := 9) (v := _) rfl (by kernel_rfl) (by kernel_rfl) (by kernel_rfl) (fun _ _ _ h => h) (Or.inl ⟨by rfl, ?taq30⟩) (by assumption) ?tbq30
                  case taq30 =>
                    intro wS hSw
                    (try dsimp only at hSw)
                    go_simp
                    (try (with_reducible rfl))
                  (try simp only [List.getElem_toArray, List.getElem_cons_zero, List.getElem_cons_succ, Act.put, List.setIfInBounds_toArray, List.set_cons_zero, List.set_cons_succ])
                  refine wpAnyH_ready (rs := [11]) (by kernel_rfl) (by simp) ?_
                  refine AllReadyH.cons rfl (fun K9 hK9 => ?_) AllReadyH.nil
                  have kq := (KE46.out.blk _ (.head _)).1
                  have y0 := kq.cell 0
                  have z0 := kq.free 0
                  have y1 := kq.cell 1
                  have z1 := kq.free 1
                  have y2 := kq.cell 2
                  have z2 := kq.free 2
                  have y3 := kq.cell 3
                  have z3 := kq.free 3
                  simp only [List.getElem?_cons_zero, List.getElem?_cons_succ] at y0 y1 y2 y3
                  clear kq
                  have KE47 := Lib.hid (((((KE46.out.only (.head _)).set 0 (.int .i64 a)).set 1 (.int .i64 b)).set 2 (.int .i64 c)).set 3 (.slice A8 (ls.length + 1) c8))
                  (try simp only [List.getElem_toArray, List.getElem_cons_zero, List.getElem_cons_succ])
                  go_simp
                  clear y0 y1 y2 y3 z0 z1 z2 z3
                  refine hK9.out _ _ (KE47.out.bel) (fun hHeld9 => ?_)
                  clear hK9 K9
                  (try simp only [List.getElem_toArray, List.getElem_cons_zero, List.getElem_cons_succ, Act.put, List.setIfInBounds_toArray, List.set_cons_zero, List.set_cons_succ])
                  refine wpAnyH_done (by kernel_rfl) ?_ _
                  go_wp2_with fail
                  go_meet
                  exact ⟨_, A8, c8, rfl, KE47.out⟩
              · (try simp only [List.getElem_toArray, List.getElem_cons_zero, List.getElem_cons_succ])
                go_simp
                have kx := KE35.out.alloc 25 #[.int .i64 0, .int .i64 0, .int .i64 0, .slice none 0 0]
                (try simp only [World.size_alloc, heap_drew] at kx)
                have KE48 := Lib.hid kx
                clear kx
                refine hK9.out _ _ (KE48.out.bel) (fun hHeld9 => ?_)
                clear hK9 K9
                (try simp only [List.getElem_toArray, List.getElem_cons_zero, List.getElem_cons_succ, Act.put, List.setIfInBounds_toArray, List.set_cons_zero, List.set_cons_succ])
                refine wpAnyH_ready (rs := [2]) (by kernel_rfl) (by simp) ?_
                refine AllReadyH.cons rfl (fun K9 hK9 => ?_) AllReadyH.nil
                (try simp only [List.getElem_toArray, List.getElem_cons_zero, List.getElem_cons_succ])
                go_simp
                have kx := KE48.out.empty
                (try simp only [World.size_alloc, heap_drew] at kx)
                have KE49 := Lib.hid kx
                clear kx
                refine hK9.out _ _ (KE49.out.bel) (fun hHeld9 => ?_)
                clear hK9 K9
                (try simp only [List.getElem_toArray, List.getElem_cons_zero, List.getElem_cons_succ, Act.put, List.setIfInBounds_toArray, List.set_cons_zero, List.set_cons_succ])
                refine wpAnyH_ready (rs := [5]) (by kernel_rfl) (by simp) ?_
                refine AllReadyH.cons rfl (fun K9 hK9 => ?_) AllReadyH.nil
                (try simp only [List.getElem_toArray, List.getElem_cons_zero, List.getElem_cons_succ])
                rw [if_pos (by rfl)]
                refine wp_extendN elem_layer (((wd.drew.alloc (.cells #[.int .i64 5, .int .i64 0, .int .i64 0, .int .i64 0, .int .i64 0, .int .i64 0, .bool false] 43)).alloc (.cells #[.int .i64 0, .int .i64 0, .int .i64 0, .slice none 0 0] 25)).alloc (.cells #[] 43)) _ _ (by rfl) wd.heap.size 0 (.slice (some ⟨wd.heap.size + 1 + 1, 0, none⟩) 0 0) [] (by rfl) KE49.out.own w.heap.size ls.length _ (ls.flatMap LayV.cells) (by rfl) (HL.out.rd.below (HB3.out.trans (KE49.out.bel.mono HB3.out.size))) HFL.out (cells_one ls) (by unfold maxLen; omega) (by omega) KE49.out.bel.size ?_
                intro A7 c7 w7 hown7 hgrow7 hfr7
                rw [Nat.zero_add, List.nil_append] at hown7
                rw [Nat.zero_add] at hfr7
                rw [Nat.zero_add]
                have KE50 := Lib.hid (KE49.out.grow hown7 hgrow7 hfr7)
                clear hown7 hgrow7 hfr7
                refine hK9.out _ _ (KE50.out.bel) (fun hHeld9 => ?_)
                clear hK9 K9
                (try simp only [List.getElem_toArray, List.getElem_cons_zero, List.getElem_cons_succ, Act.put, List.setIfInBounds_toArray, List.set_cons_zero, List.set_cons_succ])
                refine wpAnyH_ready (rs := [8]) (by kernel_rfl) (by simp) ?_
                refine AllReadyH.cons rfl (fun K9 hK9 => ?_) AllReadyH.nil
                (try simp only [List.getElem_toArray, List.getElem_cons_zero, List.getElem_cons_succ])
                rw [if_pos (by rfl)]
                have kq := (KE50.out.blk _ (.tail _ (.head _))).1
                refine wp_extendN elem_layer w7 _ _ (by rfl) wd.heap.size ls.length (.slice A7 ls.length c7) (ls.flatMap LayV.cells) (by rfl) KE50.out.own _ 1 _ (LayV.cells ⟨5, 0, 0, 0, 0, 0, false⟩) (by rfl) (kq.readsN (n := 1) rfl (by unfold maxLen; omega)) rfl (by simp [LayV.cells, Value.oneCell']) (by unfold maxLen; omega) (by omega) KE50.out.bel.size ?_
                intro A8 c8 w8 hown8 hgrow8 hfr8
                have KE51 := Lib.hid (KE50.out.grow hown8 hgrow8 hfr8)
                clear hown8 hgrow8 hfr8 kq
                refine hK9.out _ _ (KE51.out.bel) (fun hHeld9 => ?_)
                clear hK9 K9
                (try simp only [List.getElem_toArray, List.getElem_cons_zero, List.getElem_cons_succ, Act.put, List.setIfInBounds_toArray, List.set_cons_zero, List.set_cons_succ])
                refine' wpAnyH_take (i := 9) (v := _) rfl (by kernel_rfl) (by kernel_rfl) (by kernel_rfl) (fun _ _ _ h => h) (Or.inl ⟨by rfl, ?taq31⟩) (by assumption) ?tbq31
                case taq31 =>
                  intro wS hSw
                  (try dsimp only at hSw)
                  go_simp
                  (try (with_reducible rfl))
                (try simp only [List.getElem_toArray, List.getElem_cons_zero, List.getElem_cons_succ, Act.put, List.setIfInBounds_toArray, List.set_cons_zero, List.set_cons_succ])
                refine wpAnyH_ready (rs := [11]) (by kernel_rfl) (by simp) ?_
                refine AllReadyH.cons rfl (fun K9 hK9 => ?_) AllReadyH.nil
                have kq := (KE51.out.blk _ (.head _)).1
                have y0 := kq.cell 0
                have z0 := kq.free 0
                have y1 := kq.cell 1
                have z1 := kq.free 1
                have y2 := kq.cell 2
                have z2 := kq.free 2
                have y3 := kq.cell 3
                have z3 := kq.free 3
                simp only [List.getElem?_cons_zero, List.getElem?_cons_succ] at y0 y1 y2 y3
                clear kq
                have KE52 := Lib.hid (((((KE51.out.only (.head _)).set 0 (.int .i64 a)).set 1 (.int .i64 b)).set 2 (.int .i64 c)).set 3 (.slice A8 (ls.length + 1) c8))
                (try simp only [List.getElem_toArray, List.getElem_cons_zero, List.getElem_cons_succ])
                go_simp
                clear y0 y1 y2 y3 z0 z1 z2 z3
                refine hK9.out _ _ (KE52.out.bel) (fun hHeld9 => ?_)
                clear hK9 K9
                (try simp only [List.getElem_toArray, List.getElem_cons_zero, List.getElem_cons_succ, Act.put, List.setIfInBounds_toArray, List.set_cons_zero, List.set_cons_succ])
                refine wpAnyH_done (by kernel_rfl) ?_ _
                go_wp2_with fail
                go_meet
                exact ⟨_, A8, c8, rfl, KE52.out⟩
            · (try simp only [List.getElem_toArray, List.getElem_cons_zero, List.getElem_cons_succ])
              go_simp
              have kx := KE0.out.alloc 25 #[.int .i64 0, .int .i64 0, .int .i64 0, .slice none 0 0]
              (try simp only [World.size_alloc, heap_drew] at kx)
              have KE53 := Lib.hid kx
              clear kx
              refine hK9.out _ _ (KE53.out.bel) (fun hHeld9 => ?_)
              clear hK9 K9
              (try simp only [List.getElem_toArray, List.getElem_cons_zero, List.getElem_cons_succ, Act.put, List.setIfInBounds_toArray, List.set_cons_zero, List.set_cons_succ])
              refine wpAnyH_ready (rs := [2, 7]) (by kernel_rfl) (by simp) ?_
              refine AllReadyH.cons rfl (fun K9 hK9 => ?_) (AllReadyH.cons rfl (fun K9 hK9 => ?_) AllReadyH.nil)
              · (try simp only [List.getElem_toArray, List.getElem_cons_zero, List.getElem_cons_succ])
                go_simp
                have kx := KE53.out.empty
                (try simp only [World.size_alloc, heap_drew] at kx)
                have KE54 := Lib.hid kx
                clear kx
                refine hK9.out _ _ (KE54.out.bel) (fun hHeld9 => ?_)
                clear hK9 K9
                (try simp only [List.getElem_toArray, List.getElem_cons_zero, List.getElem_cons_succ, Act.put, List.setIfInBounds_toArray, List.set_cons_zero, List.set_cons_succ])
                refine wpAnyH_ready (rs := [5, 7]) (by kernel_rfl) (by simp) ?_
                refine AllReadyH.cons rfl (fun K9 hK9 => ?_) (AllReadyH.cons rfl (fun K9 hK9 => ?_) AllReadyH.nil)
                · (try simp only [List.getElem_toArray, List.getElem_cons_zero, List.getElem_cons_succ])
                  rw [if_pos (by rfl)]
                  refine wp_extendN elem_layer ((wd.drew.alloc (.cells #[.int .i64 0, .int .i64 0, .int .i64 0, .slice none 0 0] 25)).alloc (.cells #[] 43)) _ _ (by rfl) wd.heap.size 0 (.slice (some ⟨wd.heap.size + 1, 0, none⟩) 0 0) [] (by rfl) KE54.out.own w.heap.size ls.length _ (ls.flatMap LayV.cells) (by rfl) (HL.out.rd.below (HB3.out.trans (KE54.out.bel.mono HB3.out.size))) HFL.out (cells_one ls) (by unfold maxLen; omega) (by omega) KE54.out.bel.size ?_
                  intro A7 c7 w7 hown7 hgrow7 hfr7
                  rw [Nat.zero_add, List.nil_append] at hown7
                  rw [Nat.zero_add] at hfr7
                  rw [Nat.zero_add]
                  have KE55 := Lib.hid (KE54.out.grow hown7 hgrow7 hfr7)
                  clear hown7 hgrow7 hfr7
                  refine hK9.out _ _ (KE55.out.bel) (fun hHeld9 => ?_)
                  clear hK9 K9
                  (try simp only [List.getElem_toArray, List.getElem_cons_zero, List.getElem_cons_succ, Act.put, List.setIfInBounds_toArray, List.set_cons_zero, List.set_cons_succ])
                  refine wpAnyH_ready (rs := [7]) (by kernel_rfl) (by simp) ?_
                  refine AllReadyH.cons rfl (fun K9 hK9 => ?_) AllReadyH.nil
                  (try simp only [List.getElem_toArray, List.getElem_cons_zero, List.getElem_cons_succ])
                  go_simp
                  have kx := KE55.out.alloc 43 #[.int .i64 5, .int .i64 0, .int .i64 0, .int .i64 0, .int .i64 0, .int .i64 0, .bool false]
                  (try simp only [World.size_alloc, heap_drew] at kx)
                  have KE56 := Lib.hid kx
                  clear kx
                  refine hK9.out _ _ (KE56.out.bel) (fun hHeld9 => ?_)
                  clear hK9 K9
                  (try simp only [List.getElem_toArray, List.getElem_cons_zero, List.getElem_cons_succ, Act.put, List.setIfInBounds_toArray, List.set_cons_zero, List.set_cons_succ])
                  refine wpAnyH_ready (rs := [8]) (by kernel_rfl) (by simp) ?_
                  refine AllReadyH.cons rfl (fun K9 hK9 => ?_) AllReadyH.nil
                  (try simp only [List.getElem_toArray, List.getElem_cons_zero, List.getElem_cons_succ])
                  rw [if_pos (by rfl)]
                  have kq := (KE56.out.blk _ (.head _)).1
                  refine wp_extendN elem_layer (w7.alloc (.cells #[.int .i64 5, .int .i64 0, .int .i64 0, .int .i64 0, .int .i64 0, .int .i64 0, .bool false] 43)) _ _ (by rfl) wd.heap.size ls.length (.slice A7 ls.length c7) (ls.flatMap LayV.cells) (by rfl) KE56.out.own _ 1 _ (LayV.cells ⟨5, 0, 0, 0, 0, 0, false⟩) (by rfl) (kq.readsN (n := 1) rfl (by unfold maxLen; omega)) rfl (by simp [LayV.cells, Value.oneCell']) (by unfold maxLen; omega) (by omega) KE56.out.bel.size ?_
                  intro A8 c8 w8 hown8 hgrow8 hfr8
                  have KE57 := Lib.hid (KE56.out.grow hown8 hgrow8 hfr8)
                  clear hown8 hgrow8 hfr8 kq
                  refine hK9.out _ _ (KE57.out.bel) (fun hHeld9 => ?_)
                  clear hK9 K9
                  (try simp only [List.getElem_toArray, List.getElem_cons_zero, List.getElem_cons_succ, Act.put, List.setIfInBounds_toArray, List.set_cons_zero, List.set_cons_succ])
                  refine' wpAnyH_take (i := 9) (v := _) rfl (by kernel_rfl) (by kernel_rfl) (by kernel_rfl) (fun _ _ _ h => h) (Or.inl ⟨by rfl, ?taq32⟩) (by assumption) ?tbq32
                  case taq32 =>
                    intro wS hSw
                    (try dsimp only at hSw)
                    go_simp
                    (try (with_reducible rfl))
                  (try simp only [List.getElem_toArray, List.getElem_cons_zero, List.getElem_cons_succ, Act.put, List.setIfInBounds_toArray, List.set_cons_zero, List.set_cons_succ])
                  refine wpAnyH_ready (rs := [11]) (by kernel_rfl) (by simp) ?_
                  refine AllReadyH.cons rfl (fun K9 hK9 => ?_) AllReadyH.nil
                  have kq := (KE57.out.blk _ (.tail _ (.head _))).1
                  have y0 := kq.cell 0
                  have z0 := kq.free 0
                  have y1 := kq.cell 1
                  have z1 := kq.free 1
                  have y2 := kq.cell 2
                  have z2 := kq.free 2
                  have y3 := kq.cell 3
                  have z3 := kq.free 3
                  simp only [List.getElem?_cons_zero, List.getElem?_cons_succ] at y0 y1 y2 y3
                  clear kq
                  have KE58 := Lib.hid (((((KE57.out.only (.tail _ (.head _))).set 0 (.int .i64 a)).set 1 (.int .i64 b)).set 2 (.int .i64 c)).set 3 (.slice A8 (ls.length + 1) c8))
                  (try simp only [List.getElem_toArray, List.getElem_cons_zero, List.getElem_cons_succ])
                  go_simp
                  clear y0 y1 y2 y3 z0 z1 z2 z3
                  refine hK9.out _ _ (KE58.out.bel) (fun hHeld9 => ?_)
                  clear hK9 K9
                  (try simp only [List.getElem_toArray, List.getElem_cons_zero, List.getElem_cons_succ, Act.put, List.setIfInBounds_toArray, List.set_cons_zero, List.set_cons_succ])
                  refine wpAnyH_done (by kernel_rfl) ?_ _
                  go_wp2_with fail
                  go_meet
                  exact ⟨_, A8, c8, rfl, KE58.out⟩
                · (try simp only [List.getElem_toArray, List.getElem_cons_zero, List.getElem_cons_succ])
                  go_simp
                  have kx := KE54.out.alloc 43 #[.int .i64 5, .int .i64 0, .int .i64 0, .int .i64 0, .int .i64 0, .int .i64 0, .bool false]
                  (try simp only [World.size_alloc, heap_drew] at kx)
                  have KE59 := Lib.hid kx
                  clear kx
                  refine hK9.out _ _ (KE59.out.bel) (fun hHeld9 => ?_)
                  clear hK9 K9
                  (try simp only [List.getElem_toArray, List.getElem_cons_zero, List.getElem_cons_succ, Act.put, List.setIfInBounds_toArray, List.set_cons_zero, List.set_cons_succ])
                  refine wpAnyH_ready (rs := [5]) (by kernel_rfl) (by simp) ?_
                  refine AllReadyH.cons rfl (fun K9 hK9 => ?_) AllReadyH.nil
                  (try simp only [List.getElem_toArray, List.getElem_cons_zero, List.getElem_cons_succ])
                  rw [if_pos (by rfl)]
                  refine wp_extendN elem_layer (((wd.drew.alloc (.cells #[.int .i64 0, .int .i64 0, .int .i64 0, .slice none 0 0] 25)).alloc (.cells #[] 43)).alloc (.cells #[.int .i64 5, .int .i64 0, .int .i64 0, .int .i64 0, .int .i64 0, .int .i64 0, .bool false] 43)) _ _ (by rfl) wd.heap.size 0 (.slice (some ⟨wd.heap.size + 1, 0, none⟩) 0 0) [] (by rfl) KE59.out.own w.heap.size ls.length _ (ls.flatMap LayV.cells) (by rfl) (HL.out.rd.below (HB3.out.trans (KE59.out.bel.mono HB3.out.size))) HFL.out (cells_one ls) (by unfold maxLen; omega) (by omega) KE59.out.bel.size ?_
                  intro A7 c7 w7 hown7 hgrow7 hfr7
                  rw [Nat.zero_add, List.nil_append] at hown7
                  rw [Nat.zero_add] at hfr7
                  rw [Nat.zero_add]
                  have KE60 := Lib.hid (KE59.out.grow hown7 hgrow7 hfr7)
                  clear hown7 hgrow7 hfr7
                  refine hK9.out _ _ (KE60.out.bel) (fun hHeld9 => ?_)
                  clear hK9 K9
                  (try simp only [List.getElem_toArray, List.getElem_cons_zero, List.getElem_cons_succ, Act.put, List.setIfInBounds_toArray, List.set_cons_zero, List.set_cons_succ])
                  refine wpAnyH_ready (rs := [8]) (by kernel_rfl) (by simp) ?_
                  refine AllReadyH.cons rfl (fun K9 hK9 => ?_) AllReadyH.nil
                  (try simp only [List.getElem_toArray, List.getElem_cons_zero, List.getElem_cons_succ])
                  rw [if_pos (by rfl)]
                  have kq := (KE60.out.blk _ (.head _)).1
                  refine wp_extendN elem_layer w7 _ _ (by rfl) wd.heap.size ls.length (.slice A7 ls.length c7) (ls.flatMap LayV.cells) (by rfl) KE60.out.own _ 1 _ (LayV.cells ⟨5, 0, 0, 0, 0, 0, false⟩) (by rfl) (kq.readsN (n := 1) rfl (by unfold maxLen; omega)) rfl (by simp [LayV.cells, Value.oneCell']) (by unfold maxLen; omega) (by omega) KE60.out.bel.size ?_
                  intro A8 c8 w8 hown8 hgrow8 hfr8
                  have KE61 := Lib.hid (KE60.out.grow hown8 hgrow8 hfr8)
                  clear hown8 hgrow8 hfr8 kq
                  refine hK9.out _ _ (KE61.out.bel) (fun hHeld9 => ?_)
                  clear hK9 K9
                  (try simp only [List.getElem_toArray, List.getElem_cons_zero, List.getElem_cons_succ, Act.put, List.setIfInBounds_toArray, List.set_cons_zero, List.set_cons_succ])
                  refine' wpAnyH_take (i := 9) (v := _) rfl (by kernel_rfl) (by kernel_rfl) (by kernel_rfl) (fun _ _ _ h => h) (Or.inl ⟨by rfl, ?taq33⟩) (by assumption) ?tbq33
                  case taq33 =>
                    intro wS hSw
                    (try dsimp only at hSw)
                    go_simp
                    (try (with_reducible rfl))
                  (try simp only [List.getElem_toArray, List.getElem_cons_zero, List.getElem_cons_succ, Act.put, List.setIfInBounds_toArray, List.set_cons_zero, List.set_cons_succ])
                  refine wpAnyH_ready (rs := [11]) (by kernel_rfl) (by simp) ?_
                  refine AllReadyH.cons rfl (fun K9 hK9 => ?_) AllReadyH.nil
                  have kq := (KE61.out.blk _ (.tail _ (.head _))).1
                  have y0 := kq.cell 0
                  have z0 := kq.free 0
                  have y1 := kq.cell 1
                  have z1 := kq.free 1
                  have y2 := kq.cell 2
                  have z2 := kq.free 2
                  have y3 := kq.cell 3
                  have z3 := kq.free 3
                  simp only [List.getElem?_cons_zero, List.getElem?_cons_succ] at y0 y1 y2 y3
                  clear kq
                  have KE62 := Lib.hid (((((KE61.out.only (.tail _ (.head _))).set 0 (.int .i64 a)).set 1 (.int .i64 b)).set 2 (.int .i64 c)).set 3 (.slice A8 (ls.length + 1) c8))
                  (try simp only [List.getElem_toArray, List.getElem_cons_zero, List.getElem_cons_succ])
                  go_simp
                  clear y0 y1 y2 y3 z0 z1 z2 z3
                  refine hK9.out _ _ (KE62.out.bel) (fun hHeld9 => ?_)
                  clear hK9 K9
                  (try simp only [List.getElem_toArray, List.getElem_cons_zero, List.getElem_cons_succ, Act.put, List.setIfInBounds_toArray, List.set_cons_zero, List.set_cons_succ])
                  refine wpAnyH_done (by kernel_rfl) ?_ _
                  go_wp2_with fail
                  go_meet
                  exact ⟨_, A8, c8, rfl, KE62.out⟩
              · (try simp only [List.getElem_toArray, List.getElem_cons_zero, List.getElem_cons_succ])
                go_simp
                have kx := KE53.out.alloc 43 #[.int .i64 5, .int .i64 0, .int .i64 0, .int .i64 0, .int .i64 0, .int .i64 0, .bool false]
                (try simp only [World.size_alloc, heap_drew] at kx)
                have KE63 := Lib.hid kx
                clear kx
                refine hK9.out _ _ (KE63.out.bel) (fun hHeld9 => ?_)
                clear hK9 K9
                (try simp only [List.getElem_toArray, List.getElem_cons_zero, List.getElem_cons_succ, Act.put, List.setIfInBounds_toArray, List.set_cons_zero, List.set_cons_succ])
                refine wpAnyH_ready (rs := [2]) (by kernel_rfl) (by simp) ?_
                refine AllReadyH.cons rfl (fun K9 hK9 => ?_) AllReadyH.nil
                (try simp only [List.getElem_toArray, List.getElem_cons_zero, List.getElem_cons_succ])
                go_simp
                have kx := KE63.out.empty
                (try simp only [World.size_alloc, heap_drew] at kx)
                have KE64 := Lib.hid kx
                clear kx
                refine hK9.out _ _ (KE64.out.bel) (fun hHeld9 => ?_)
                clear hK9 K9
                (try simp only [List.getElem_toArray, List.getElem_cons_zero, List.getElem_cons_succ, Act.put, List.setIfInBounds_toArray, List.set_cons_zero, List.set_cons_succ])
                refine wpAnyH_ready (rs := [5]) (by kernel_rfl) (by simp) ?_
                refine AllReadyH.cons rfl (fun K9 hK9 => ?_) AllReadyH.nil
                (try simp only [List.getElem_toArray, List.getElem_cons_zero, List.getElem_cons_succ])
                rw [if_pos (by rfl)]
                refine wp_extendN elem_layer (((wd.drew.alloc (.cells #[.int .i64 0, .int .i64 0, .int .i64 0, .slice none 0 0] 25)).alloc (.cells #[.int .i64 5, .int .i64 0, .int .i64 0, .int .i64 0, .int .i64 0, .int .i64 0, .bool false] 43)).alloc (.cells #[] 43)) _ _ (by rfl) wd.heap.size 0 (.slice (some ⟨wd.heap.size + 1 + 1, 0, none⟩) 0 0) [] (by rfl) KE64.out.own w.heap.size ls.length _ (ls.flatMap LayV.cells) (by rfl) (HL.out.rd.below (HB3.out.trans (KE64.out.bel.mono HB3.out.size))) HFL.out (cells_one ls) (by unfold maxLen; omega) (by omega) KE64.out.bel.size ?_
                intro A7 c7 w7 hown7 hgrow7 hfr7
                rw [Nat.zero_add, List.nil_append] at hown7
                rw [Nat.zero_add] at hfr7
                rw [Nat.zero_add]
                have KE65 := Lib.hid (KE64.out.grow hown7 hgrow7 hfr7)
                clear hown7 hgrow7 hfr7
                refine hK9.out _ _ (KE65.out.bel) (fun hHeld9 => ?_)
                clear hK9 K9
                (try simp only [List.getElem_toArray, List.getElem_cons_zero, List.getElem_cons_succ, Act.put, List.setIfInBounds_toArray, List.set_cons_zero, List.set_cons_succ])
                refine wpAnyH_ready (rs := [8]) (by kernel_rfl) (by simp) ?_
                refine AllReadyH.cons rfl (fun K9 hK9 => ?_) AllReadyH.nil
                (try simp only [List.getElem_toArray, List.getElem_cons_zero, List.getElem_cons_succ])
                rw [if_pos (by rfl)]
                have kq := (KE65.out.blk _ (.head _)).1
                refine wp_extendN elem_layer w7 _ _ (by rfl) wd.heap.size ls.length (.slice A7 ls.length c7) (ls.flatMap LayV.cells) (by rfl) KE65.out.own _ 1 _ (LayV.cells ⟨5, 0, 0, 0, 0, 0, false⟩) (by rfl) (kq.readsN (n := 1) rfl (by unfold maxLen; omega)) rfl (by simp [LayV.cells, Value.oneCell']) (by unfold maxLen; omega) (by omega) KE65.out.bel.size ?_
                intro A8 c8 w8 hown8 hgrow8 hfr8
                have KE66 := Lib.hid (KE65.out.grow hown8 hgrow8 hfr8)
                clear hown8 hgrow8 hfr8 kq
                refine hK9.out _ _ (KE66.out.bel) (fun hHeld9 => ?_)
                clear hK9 K9
                (try simp only [List.getElem_toArray, List.getElem_cons_zero, List.getElem_cons_succ, Act.put, List.setIfInBounds_toArray, List.set_cons_zero, List.set_cons_succ])
                refine' wpAnyH_take (i := 9) (v := _) rfl (by kernel_rfl) (by kernel_rfl) (by kernel_rfl) (fun _ _ _ h => h) (Or.inl ⟨by rfl, ?taq34⟩) (by assumption) ?tbq34
                case taq34 =>
                  intro wS hSw
                  (try dsimp only at hSw)
                  go_simp
                  (try (with_reducible rfl))
                (try simp only [List.getElem_toArray, List.getElem_cons_zero, List.getElem_cons_succ, Act.put, List.setIfInBounds_toArray, List.set_cons_zero, List.set_cons_succ])
                refine wpAnyH_ready (rs := [11]) (by kernel_rfl) (by simp) ?_
                refine AllReadyH.cons rfl (fun K9 hK9 => ?_) AllReadyH.nil
                have kq := (KE66.out.blk _ (.tail _ (.head _))).1
                have y0 := kq.cell 0
                have z0 := kq.free 0
                have y1 := kq.cell 1
                have z1 := kq.free 1
                have y2 := kq.cell 2
                have z2 := kq.free 2
                have y3 := kq.cell 3
                have z3 := kq.free 3
                simp only [List.getElem?_cons_zero, List.getElem?_cons_succ] at y0 y1 y2 y3
                clear kq
                have KE67 := Lib.hid (((((KE66.out.only (.tail _ (.head _))).set 0 (.int .i64 a)).set 1 (.int .i64 b)).set 2 (.int .i64 c)).set 3 (.slice A8 (ls.length + 1) c8))
                (try simp only [List.getElem_toArray, List.getElem_cons_zero, List.getElem_cons_succ])
                go_simp
                clear y0 y1 y2 y3 z0 z1 z2 z3
                refine hK9.out _ _ (KE67.out.bel) (fun hHeld9 => ?_)
                clear hK9 K9
                (try simp only [List.getElem_toArray, List.getElem_cons_zero, List.getElem_cons_succ, Act.put, List.setIfInBounds_toArray, List.set_cons_zero, List.set_cons_succ])
                refine wpAnyH_done (by kernel_rfl) ?_ _
                go_wp2_with fail
                go_meet
                exact ⟨_, A8, c8, rfl, KE67.out⟩
          case rest =>
            obtain ⟨q, A8, c8, rfl, hst⟩ := hcut
            have hfx : ls.flatMap LayV.cells ++ LayV.cells ⟨5, 0, 0, 0, 0, 0, false⟩ = (ls ++ [(⟨5, 0, 0, 0, 0, 0, false⟩ : LayV)]).flatMap LayV.cells := by simp
            have hlx : (ls ++ [(⟨5, 0, 0, 0, 0, 0, false⟩ : LayV)]).length = ls.length + 1 := by simp
            have hown := hst.own
            rw [hfx, ← hlx] at hown
            have hkx := (hst.blk _ (.head _)).1
            have HLX : Hid (LaysOf wc wc.heap.size (.slice A8 (ls.length + 1) c8) (ls ++ [(⟨5, 0, 0, 0, 0, 0, false⟩ : LayV)])) := Lib.hid (by
              have h := LaysOf.of_own (ls := ls ++ [(⟨5, 0, 0, 0, 0, 0, false⟩ : LayV)]) hown (fun l hl => by
                rcases List.mem_append.1 hl with h1 | h1
                · exact HL.out.ok.out l h1
                · rw [List.mem_singleton] at h1
                  subst h1
                  simp [LayV.ok, inW]) (by rw [hlx]; omega)
              rw [hlx] at h
              exact h)
            obtain ⟨e, hel, hsh⟩ := shapesM_relu HQ.out HM.out (by omega)
            have hm2 := mayM_relu HM.out (by omega : ls.length < 12)
            have HBC : Hid (Below w.heap.size w wc) := Lib.hid (HB3.out.trans (hst.bel.mono HB3.out.size))
            have HRC : Hid (RowsOf wc wd.heap.size (.slice Ra all.length ca) all) := Lib.hid (HRA4.out.below hst.bel)
            have hwc := hst.bel.size
            have HKX := Lib.hid hkx
            have C5 : Hid (∀ W : World, Below wc.heap.size wc W → Calls Try.prog 12 #[.agg #[.int .i64 a, .int .i64 b, .int .i64 c, .slice A8 (ls.length + 1) c8]] W (Shaped W (all ++ [e], 0, 0))) :=
              Lib.hid (fun W hW => shapes_any a b c _ _ W wc.heap.size hW.size (HLX.out.below hW) _ hsh)
            have C6 : Hid (∀ W : World, Below wc.heap.size wc W → Calls Try.prog 20 #[.agg #[.int .i64 a, .int .i64 b, .int .i64 c, .slice A8 (ls.length + 1) c8]] W fun en w' => en = .returned (.bool true) ∧ Below W.heap.size W w') :=
              Lib.hid (fun W hW => rMayModel_any a b c _ _ W wc.heap.size hW.size (HLX.out.below hW) _ hm2)
            have hlast : all[ls.length]? = some e := by
              rw [List.getLast?_eq_getElem?, HAL.out] at hel
              exact hel
            have HLA := Lib.hid hlast
            have y0 := HKX.out.cell 0
            have y1 := HKX.out.cell 1
            have y2 := HKX.out.cell 2
            have y3 := HKX.out.cell 3
            simp only [List.getElem?_cons_zero, List.getElem?_cons_succ] at y0 y1 y2 y3
            have qlt := HKX.out.lt
            clear hst hfx hlx hown hkx hel hsh hm2 hlast HLX
            go_wp2_with fail
            clear y0 y1 y2 y3
            refine (C5.out wc (Below.refl _ _)).mono ?_
            rintro en wf ⟨Rf, cf, rfl, hrf, hb5⟩
            have HB5 := Lib.hid hb5
            have HRD := Lib.hid (HRC.out.below (hb5.mono hwc))
            have HRF := Lib.hid hrf
            have K5 := Lib.hid (HKX.out.below hb5 qlt)
            have hwf := hb5.size
            clear hb5 hrf HRC
            dsimp only at HRF ⊢
            have hlf : (all ++ [e]).length = all.length + 1 := by simp
            rw [hlf]
            have hxf : (all ++ [e])[all.length]? = some e := by simp
            obtain ⟨ga, oa, ca', Aa, ca2, ea, hga, hca, hRa⟩ := HRD.out.at_ HLA.out
            obtain ⟨gb, ob, cb', Ab, cb2, eb, hgb, hcb, hRb⟩ := HRF.out.at_ hxf
            rw [hlf] at eb
            injection ea with ea _ ea3
            injection eb with eb _ eb3
            subst ea ea3 eb eb3
            have tq : (e == e) = true := by simp
            have HSA : Hid (∀ W : World, Below wf.heap.size wf W → Calls Try.prog 14 #[.slice Ab e.length cb2, .slice Aa e.length ca2] W (Quiet W (.bool true))) := Lib.hid (fun W hW => by
              have h := sameints_any e e _ _ W _ _ (hRb.below hW) (hRa.below (hW.mono (by omega)))
              rwa [tq] at h)
            have hcb' : wf.cell? ⟨gb, ob + all.length, none⟩ = some (.slice Ab e.length cb2) := hcb
            have hca' : wf.cell? ⟨ga, oa + ls.length, none⟩ = some (.slice Aa e.length ca2) := hca
            have t6 : (((all.length + 1 : Nat) : Int) == (all.length : Int) + 1) = true := by simp
            have ix : (all.length : Int) < (((all.length + 1 : Nat) : Int)) := by omega
            have hix : (all.length : Int) + 1 ≤ 9223372036854775807 := by have := HAL.out; omega
            have hal1 : (all.length : Int) - 1 = (ls.length : Int) := by have := HAL.out; omega
            have hal0 : (ls.length : Int) < (all.length : Int) := by have := HAL.out; omega
            clear hlf hxf hRa hRb hcb hca tq HRD HRF HLA
            go_upto_region 18 with fail
            have z0 := K5.out.cell 0
            have z1 := K5.out.cell 1
            have z2 := K5.out.cell 2
            have z3 := K5.out.cell 3
            simp only [List.getElem?_cons_zero, List.getElem?_cons_succ] at z0 z1 z2 z3
            have hqf : q < wf.heap.size := K5.out.lt
            have hw1 : IntKind.i64.wrap ((all.length : Int) + 1) = (all.length : Int) + 1 := IntWalk.i64_in _ (by omega)
            have hw2 : IntKind.i64.wrap ((all.length : Int) - 1) = (ls.length : Int) := by rw [hal1]; exact IntWalk.i64_in _ (by omega)
            have hw3 : IntKind.i64.wrap (ls.length : Int) = (ls.length : Int) := IntWalk.i64_in _ (by omega)
            have ix2 : (all.length : Int) < (all.length : Int) + 1 := by omega
            have ix3 : (0 : Int) ≤ (all.length : Int) := by omega
            have ix4 : (0 : Int) ≤ (ls.length : Int) := by omega
            refine wp_region_held_drew (S := (fun w' => (w'.cell? ⟨gb, ob + all.length, none⟩ = some (.slice Ab e.length cb2) ∧ w'.cell? ⟨ga, oa + ls.length, none⟩ = some (.slice Aa e.length ca2)) ∧ w'.cell? ⟨q, 0, none⟩ = some (.int .i64 a) ∧ w'.cell? ⟨q, 1, none⟩ = some (.int .i64 b) ∧ w'.cell? ⟨q, 2, none⟩ = some (.int .i64 c) ∧ w'.cell? ⟨q, 3, none⟩ = some (.slice A8 (ls.length + 1) c8))) (by kernel_rfl) (⟨⟨hcb', hca'⟩, z0, z1, z2, z3⟩) (fun hHeld => ?_)
            refine' wpAnyH_take (i := 0) (v := _) rfl (by kernel_rfl) (by kernel_rfl) (by kernel_rfl) (fun _ _ _ h => h) (Or.inl ⟨by rfl, ?taq35⟩) (by assumption) ?tbq35
            case taq35 =>
              intro wS hSw
              (try dsimp only at hSw)
              go_simp
              (try (with_reducible rfl))
            (try simp only [List.getElem_toArray, List.getElem_cons_zero, List.getElem_cons_succ, Act.put, List.setIfInBounds_toArray, List.set_cons_zero, List.set_cons_succ])
            refine' wpAnyH_take (i := 1) (v := _) rfl (by kernel_rfl) (by kernel_rfl) (by kernel_rfl) (fun _ _ _ h => h) (Or.inl ⟨by rfl, ?taq36⟩) (by assumption) ?tbq36
            case taq36 =>
              intro wS hSw
              (try dsimp only at hSw)
              go_simp
              (try (with_reducible rfl))
            (try simp only [List.getElem_toArray, List.getElem_cons_zero, List.getElem_cons_succ, Act.put, List.setIfInBounds_toArray, List.set_cons_zero, List.set_cons_succ])
            refine' wpAnyH_take (i := 2) (v := _) rfl (by kernel_rfl) (by kernel_rfl) (by kernel_rfl) (fun _ _ _ h => h) (Or.inl ⟨by rfl, ?taq37⟩) (by assumption) ?tbq37
            case taq37 =>
              intro wS hSw
              (try dsimp only at hSw)
              go_simp
              (try (with_reducible rfl))
            (try simp only [List.getElem_toArray, List.getElem_cons_zero, List.getElem_cons_succ, Act.put, List.setIfInBounds_toArray, List.set_cons_zero, List.set_cons_succ])
            refine' wpAnyH_take (i := 3) (v := _) rfl (by kernel_rfl) (by kernel_rfl) (by kernel_rfl) (fun _ _ _ h => h) (Or.inl ⟨by rfl, ?taq38⟩) (by assumption) ?tbq38
            case taq38 =>
              intro wS hSw
              (try dsimp only at hSw)
              go_simp
              (try (with_reducible rfl))
            (try simp only [List.getElem_toArray, List.getElem_cons_zero, List.getElem_cons_succ, Act.put, List.setIfInBounds_toArray, List.set_cons_zero, List.set_cons_succ])
            refine' wpAnyH_take (i := 4) (v := _) rfl (by kernel_rfl) (by kernel_rfl) (by kernel_rfl) (fun _ _ _ h => h) (Or.inl ⟨by rfl, ?taq39⟩) (by assumption) ?tbq39
            case taq39 =>
              intro wS hSw
              (try dsimp only at hSw)
              go_simp
              (try (with_reducible rfl))
            (try simp only [List.getElem_toArray, List.getElem_cons_zero, List.getElem_cons_succ, Act.put, List.setIfInBounds_toArray, List.set_cons_zero, List.set_cons_succ])
            refine' wpAnyH_take (i := 5) (v := _) rfl (by kernel_rfl) (by kernel_rfl) (by kernel_rfl) (fun _ _ _ h => h) (Or.inl ⟨by rfl, ?taq40⟩) (by assumption) ?tbq40
            case taq40 =>
              intro wS hSw
              (try dsimp only at hSw)
              go_simp
              (try (with_reducible rfl))
            (try simp only [List.getElem_toArray, List.getElem_cons_zero, List.getElem_cons_succ, Act.put, List.setIfInBounds_toArray, List.set_cons_zero, List.set_cons_succ])
            refine' wpAnyH_take (i := 6) (v := _) rfl (by kernel_rfl) (by kernel_rfl) (by kernel_rfl) (fun _ _ _ h => h) (Or.inl ⟨by rfl, ?taq41⟩) (by assumption) ?tbq41
            case taq41 =>
              intro wS hSw
              (try dsimp only at hSw)
              go_simp
              (try (with_reducible rfl))
            (try simp only [List.getElem_toArray, List.getElem_cons_zero, List.getElem_cons_succ, Act.put, List.setIfInBounds_toArray, List.set_cons_zero, List.set_cons_succ])
            refine' wpAnyH_take (i := 7) (v := _) rfl (by kernel_rfl) (by kernel_rfl) (by kernel_rfl) (fun _ _ _ h => h) (Or.inl ⟨by rfl, ?taq42⟩) (by assumption) ?tbq42
            case taq42 =>
              intro wS hSw
              (try dsimp only at hSw)
              go_simp
              (try (with_reducible rfl))
            (try simp only [List.getElem_toArray, List.getElem_cons_zero, List.getElem_cons_succ, Act.put, List.setIfInBounds_toArray, List.set_cons_zero, List.set_cons_succ])
            refine' wpAnyH_take (i := 8) (v := _) rfl (by kernel_rfl) (by kernel_rfl) (by kernel_rfl) (fun _ _ _ h => h) (Or.inl ⟨by rfl, ?taq43⟩) (by assumption) ?tbq43
            case taq43 =>
              intro wS hSw
              (try dsimp only at hSw)
              go_simp
              (try (with_reducible rfl))
            (try simp only [List.getElem_toArray, List.getElem_cons_zero, List.getElem_cons_succ, Act.put, List.setIfInBounds_toArray, List.set_cons_zero, List.set_cons_succ])
            refine' wpAnyH_take (i := 9) (v := _) rfl (by kernel_rfl) (by kernel_rfl) (by kernel_rfl) (fun _ _ _ h => h) (Or.inl ⟨by rfl, ?taq44⟩) (by assumption) ?tbq44
            case taq44 =>
              intro wS hSw
              (try dsimp only at hSw)
              go_simp
              (try (with_reducible rfl))
            (try simp only [List.getElem_toArray, List.getElem_cons_zero, List.getElem_cons_succ, Act.put, List.setIfInBounds_toArray, List.set_cons_zero, List.set_cons_succ])
            refine' wpAnyH_take (i := 10) (v := _) rfl (by kernel_rfl) (by kernel_rfl) (by kernel_rfl) (fun _ _ _ h => h) (Or.inl ⟨by rfl, ?taq45⟩) (by assumption) ?tbq45
            case taq45 =>
              intro wS hSw
              (try dsimp only at hSw)
              go_simp
              (try (with_reducible rfl))
            (try simp only [List.getElem_toArray, List.getElem_cons_zero, List.getElem_cons_succ, Act.put, List.setIfInBounds_toArray, List.set_cons_zero, List.set_cons_succ])
            refine' wpAnyH_take (i := 11) (v := _) rfl (by kernel_rfl) (by kernel_rfl) (by kernel_rfl) (fun _ _ _ h => h) (Or.inl ⟨by rfl, ?taq46⟩) (by assumption) ?tbq46
            case taq46 =>
              intro wS hSw
              (try dsimp only at hSw)
              go_simp
              (try (with_reducible rfl))
            (try simp only [List.getElem_toArray, List.getElem_cons_zero, List.getElem_cons_succ, Act.put, List.setIfInBounds_toArray, List.set_cons_zero, List.set_cons_succ])
            refine' wpAnyH_take (i := 12) (v := _) rfl (by kernel_rfl) (by kernel_rfl) (by kernel_rfl) (fun _ _ _ h => h) (Or.inl ⟨by rfl, ?taq47⟩) (by assumption) ?tbq47
            case taq47 =>
              intro wS hSw
              (try dsimp only at hSw)
              go_simp
              (try (with_reducible rfl))
            (try simp only [List.getElem_toArray, List.getElem_cons_zero, List.getElem_cons_succ, Act.put, List.setIfInBounds_toArray, List.set_cons_zero, List.set_cons_succ])
            refine' wpAnyH_take (i := 13) (v := _) rfl (by kernel_rfl) (by kernel_rfl) (by kernel_rfl) (fun _ _ _ h => h) (Or.inl ⟨by rfl, ?taq48⟩) (by assumption) ?tbq48
            case taq48 =>
              intro wS hSw
              (try dsimp only at hSw)
              go_simp
              (try (with_reducible rfl))
            (try simp only [List.getElem_toArray, List.getElem_cons_zero, List.getElem_cons_succ, Act.put, List.setIfInBounds_toArray, List.set_cons_zero, List.set_cons_succ])
            refine' wpAnyH_take (i := 14) (v := _) rfl (by kernel_rfl) (by kernel_rfl) (by kernel_rfl) (fun _ _ _ h => h) (Or.inl ⟨by rfl, ?taq49⟩) (by assumption) ?tbq49
            case taq49 =>
              intro wS hSw
              (try dsimp only at hSw)
              go_simp
              (try (with_reducible rfl))
            (try simp only [List.getElem_toArray, List.getElem_cons_zero, List.getElem_cons_succ, Act.put, List.setIfInBounds_toArray, List.set_cons_zero, List.set_cons_succ])
            refine' wpAnyH_take (i := 15) (v := _) rfl (by kernel_rfl) (by kernel_rfl) (by kernel_rfl) (fun _ _ _ h => h) (Or.inl ⟨by rfl, ?taq50⟩) (by assumption) ?tbq50
            case taq50 =>
              intro wS hSw
              (try dsimp only at hSw)
              go_simp
              (try (with_reducible rfl))
            (try simp only [List.getElem_toArray, List.getElem_cons_zero, List.getElem_cons_succ, Act.put, List.setIfInBounds_toArray, List.set_cons_zero, List.set_cons_succ])
            refine' wpAnyH_take (i := 16) (v := _) rfl (by kernel_rfl) (by kernel_rfl) (by kernel_rfl) (fun _ _ _ h => h) (Or.inl ⟨by rfl, ?taq51⟩) (by assumption) ?tbq51
            case taq51 =>
              intro wS hSw
              (try dsimp only at hSw)
              go_simp
              (try (with_reducible rfl))
            (try simp only [List.getElem_toArray, List.getElem_cons_zero, List.getElem_cons_succ, Act.put, List.setIfInBounds_toArray, List.set_cons_zero, List.set_cons_succ])
            refine' wpAnyH_take (i := 17) (v := _) rfl (by kernel_rfl) (by kernel_rfl) (by kernel_rfl) (fun _ _ _ h => h) (Or.inl ⟨by rfl, ?taq52⟩) (by assumption) ?tbq52
            case taq52 =>
              intro wS hSw
              (try dsimp only at hSw)
              go_simp
              (try (with_reducible rfl))
            (try simp only [List.getElem_toArray, List.getElem_cons_zero, List.getElem_cons_succ, Act.put, List.setIfInBounds_toArray, List.set_cons_zero, List.set_cons_succ])
            refine' wpAnyH_take (i := 18) (v := _) rfl (by kernel_rfl) (by kernel_rfl) (by kernel_rfl) (fun _ _ _ h => h) (Or.inl ⟨by rfl, ?taq53⟩) (by assumption) ?tbq53
            case taq53 =>
              intro wS hSw
              (try dsimp only at hSw)
              go_simp
              (try (with_reducible rfl))
            (try simp only [List.getElem_toArray, List.getElem_cons_zero, List.getElem_cons_succ, Act.put, List.setIfInBounds_toArray, List.set_cons_zero, List.set_cons_succ])
            refine' wpAnyH_take (i := 19) (v := _) rfl (by kernel_rfl) (by kernel_rfl) (by kernel_rfl) (fun _ _ _ h => h) (Or.inl ⟨by rfl, ?taq54⟩) (by assumption) ?tbq54
            case taq54 =>
              intro wS hSw
              (try dsimp only at hSw)
              go_simp
              (try (with_reducible rfl))
            (try simp only [List.getElem_toArray, List.getElem_cons_zero, List.getElem_cons_succ, Act.put, List.setIfInBounds_toArray, List.set_cons_zero, List.set_cons_succ])
            refine' wpAnyH_take (i := 20) (v := _) rfl (by kernel_rfl) (by kernel_rfl) (by kernel_rfl) (fun _ _ _ h => h) (Or.inl ⟨by rfl, ?taq55⟩) (by assumption) ?tbq55
            case taq55 =>
              intro wS hSw
              (try dsimp only at hSw)
              go_simp
              (try (with_reducible rfl))
            (try simp only [List.getElem_toArray, List.getElem_cons_zero, List.getElem_cons_succ, Act.put, List.setIfInBounds_toArray, List.set_cons_zero, List.set_cons_succ])
            refine' wpAnyH_take (i := 21) (v := _) rfl (by kernel_rfl) (by kernel_rfl) (by kernel_rfl) (fun _ _ _ h => h) (Or.inl ⟨by rfl, ?taq56⟩) (by assumption) ?tbq56
            case taq56 =>
              intro wS hSw
              (try dsimp only at hSw)
              go_simp
              (try (with_reducible rfl))
            (try simp only [List.getElem_toArray, List.getElem_cons_zero, List.getElem_cons_succ, Act.put, List.setIfInBounds_toArray, List.set_cons_zero, List.set_cons_succ])
            refine wpAnyH_ready (rs := [22]) (by kernel_rfl) (by simp) ?_
            refine AllReadyH.cons rfl (fun K9 hK9 => ?_) AllReadyH.nil
            (try simp only [List.getElem_toArray, List.getElem_cons_zero, List.getElem_cons_succ])
            go_simp
            refine (HSA.out wf.drew (Below.refl _ _).drew).mono ?_
            rintro en wg ⟨rfl, m2, rfl⟩
            have HB6 : Hid (Below wf.heap.size wf (wf.drewN (1 + m2))) := Lib.hid (net_drewN (Below.refl _ wf) (1 + m2))
            refine hK9.out _ _ (⟨⟨hcb', hca'⟩, z0, z1, z2, z3⟩) (fun hHeld9 => ?_)
            clear hK9 K9
            (try simp only [List.getElem_toArray, List.getElem_cons_zero, List.getElem_cons_succ, Act.put, List.setIfInBounds_toArray, List.set_cons_zero, List.set_cons_succ])
            refine' wpAnyH_take (i := 23) (v := _) rfl (by kernel_rfl) (by kernel_rfl) (by kernel_rfl) (fun _ _ _ h => h) (Or.inl ⟨by rfl, ?taq57⟩) (by assumption) ?tbq57
            case taq57 =>
              intro wS hSw
              (try dsimp only at hSw)
              go_simp
              (try (with_reducible rfl))
            (try simp only [List.getElem_toArray, List.getElem_cons_zero, List.getElem_cons_succ, Act.put, List.setIfInBounds_toArray, List.set_cons_zero, List.set_cons_succ])
            refine' wpAnyH_take (i := 24) (v := _) rfl (by kernel_rfl) (by kernel_rfl) (by kernel_rfl) (fun _ _ _ h => h) (Or.inl ⟨by rfl, ?taq58⟩) (by assumption) ?tbq58
            case taq58 =>
              intro wS hSw
              (try dsimp only at hSw)
              go_simp
              (try (with_reducible rfl))
            (try simp only [List.getElem_toArray, List.getElem_cons_zero, List.getElem_cons_succ, Act.put, List.setIfInBounds_toArray, List.set_cons_zero, List.set_cons_succ])
            refine' wpAnyH_take (i := 25) (v := _) rfl (by kernel_rfl) (by kernel_rfl) (by kernel_rfl) (fun _ _ _ h => h) (Or.inl ⟨by rfl, ?taq59⟩) (by assumption) ?tbq59
            case taq59 =>
              intro wS hSw
              (try dsimp only at hSw)
              go_simp
              (try (with_reducible rfl))
            (try simp only [List.getElem_toArray, List.getElem_cons_zero, List.getElem_cons_succ, Act.put, List.setIfInBounds_toArray, List.set_cons_zero, List.set_cons_succ])
            refine wpAnyH_ready (rs := [26]) (by kernel_rfl) (by simp) ?_
            refine AllReadyH.cons rfl (fun K9 hK9 => ?_) AllReadyH.nil
            (try simp only [List.getElem_toArray, List.getElem_cons_zero, List.getElem_cons_succ])
            go_simp
            refine (C6.out (wf.drewN (1 + m2)) (HB5.out.trans (HB6.out.mono HB5.out.size))).mono ?_
            rintro en wh ⟨rfl, hbq⟩
            have HB7 : Hid (Below wf.heap.size wf wh) := Lib.hid (HB6.out.trans (hbq.mono HB6.out.size))
            clear hbq
            have s0 := (HB7.out.cell (p := ⟨gb, ob + all.length, none⟩) hgb).trans hcb'
            have s1 := (HB7.out.cell (p := ⟨ga, oa + ls.length, none⟩) (by show ga < _; omega)).trans hca'
            have s2 := (HB7.out.cell (p := ⟨q, 0, none⟩) hqf).trans z0
            have s3 := (HB7.out.cell (p := ⟨q, 1, none⟩) hqf).trans z1
            have s4 := (HB7.out.cell (p := ⟨q, 2, none⟩) hqf).trans z2
            have s5 := (HB7.out.cell (p := ⟨q, 3, none⟩) hqf).trans z3
            refine hK9.out _ _ (⟨⟨s0, s1⟩, s2, s3, s4, s5⟩) (fun hHeld9 => ?_)
            clear hK9 K9
            (try simp only [List.getElem_toArray, List.getElem_cons_zero, List.getElem_cons_succ, Act.put, List.setIfInBounds_toArray, List.set_cons_zero, List.set_cons_succ])
            clear s0 s1 s2 s3 s4 s5
            refine' wpAnyH_take (i := 27) (v := _) rfl (by kernel_rfl) (by kernel_rfl) (by kernel_rfl) (fun _ _ _ h => h) (Or.inl ⟨by rfl, ?taq60⟩) (by assumption) ?tbq60
            case taq60 =>
              intro wS hSw
              (try dsimp only at hSw)
              go_simp
              (try (with_reducible rfl))
            (try simp only [List.getElem_toArray, List.getElem_cons_zero, List.getElem_cons_succ, Act.put, List.setIfInBounds_toArray, List.set_cons_zero, List.set_cons_succ])
            refine' wpAnyH_take (i := 28) (v := _) rfl (by kernel_rfl) (by kernel_rfl) (by kernel_rfl) (fun _ _ _ h => h) (Or.inl ⟨by rfl, ?taq61⟩) (by assumption) ?tbq61
            case taq61 =>
              intro wS hSw
              (try dsimp only at hSw)
              go_simp
              (try (with_reducible rfl))
            (try simp only [List.getElem_toArray, List.getElem_cons_zero, List.getElem_cons_succ, Act.put, List.setIfInBounds_toArray, List.set_cons_zero, List.set_cons_succ])
            refine wpAnyH_ready (rs := [29]) (by kernel_rfl) (by simp) ?_
            refine AllReadyH.cons rfl (fun K9 hK9 => ?_) AllReadyH.nil
            (try simp only [List.getElem_toArray, List.getElem_cons_zero, List.getElem_cons_succ])
            go_simp
            refine (awake16_any wh).mono ?_
            rintro en wi ⟨rfl, hbq⟩
            have HB8 : Hid (Below wf.heap.size wf wi) := Lib.hid (HB7.out.trans (hbq.mono HB7.out.size))
            clear hbq
            have s0 := (HB8.out.cell (p := ⟨gb, ob + all.length, none⟩) hgb).trans hcb'
            have s1 := (HB8.out.cell (p := ⟨ga, oa + ls.length, none⟩) (by show ga < _; omega)).trans hca'
            have s2 := (HB8.out.cell (p := ⟨q, 0, none⟩) hqf).trans z0
            have s3 := (HB8.out.cell (p := ⟨q, 1, none⟩) hqf).trans z1
            have s4 := (HB8.out.cell (p := ⟨q, 2, none⟩) hqf).trans z2
            have s5 := (HB8.out.cell (p := ⟨q, 3, none⟩) hqf).trans z3
            refine hK9.out _ _ (⟨⟨s0, s1⟩, s2, s3, s4, s5⟩) (fun hHeld9 => ?_)
            clear hK9 K9
            (try simp only [List.getElem_toArray, List.getElem_cons_zero, List.getElem_cons_succ, Act.put, List.setIfInBounds_toArray, List.set_cons_zero, List.set_cons_succ])
            clear s0 s1 s2 s3 s4 s5
            refine' wpAnyH_take (i := 30) (v := _) rfl (by kernel_rfl) (by kernel_rfl) (by kernel_rfl) (fun _ _ _ h => h) (Or.inl ⟨by rfl, ?taq62⟩) (by assumption) ?tbq62
            case taq62 =>
              intro wS hSw
              (try dsimp only at hSw)
              go_simp
              (try (with_reducible rfl))
            (try simp only [List.getElem_toArray, List.getElem_cons_zero, List.getElem_cons_succ, Act.put, List.setIfInBounds_toArray, List.set_cons_zero, List.set_cons_succ])
            refine' wpAnyH_take (i := 31) (v := _) rfl (by kernel_rfl) (by kernel_rfl) (by kernel_rfl) (fun _ _ _ h => h) (Or.inl ⟨by rfl, ?taq63⟩) (by assumption) ?tbq63
            case taq63 =>
              intro wS hSw
              (try dsimp only at hSw)
              go_simp
              (try (with_reducible rfl))
            (try simp only [List.getElem_toArray, List.getElem_cons_zero, List.getElem_cons_succ, Act.put, List.setIfInBounds_toArray, List.set_cons_zero, List.set_cons_succ])
            refine wpAnyH_done (by kernel_rfl) ?_ _
            go_wp2
            go_ret
            exact ⟨rfl, HBC.out.trans ((HB5.out.trans (HB8.out.mono HB5.out.size)).mono HBC.out.size)⟩
end Go.Proofs.Ytkileiikffomlaa
