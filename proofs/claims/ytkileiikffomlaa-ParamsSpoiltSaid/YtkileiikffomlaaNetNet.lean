/- Contracts of check.Net, check.Longest, pedagoguelaw16.flat. -/
import Derived.Test.YtkileiikffomlaaNetWalk
namespace Go.Proofs.Ytkileiikffomlaa
open Go.RowKit
set_option linter.unusedVariables false
set_option linter.unusedSimpArgs false

/-- two numbers -/
def Duo (w : World) (r : Int × Int) (en : Ending) (w' : World) : Prop := en = .returned (.tuple #[.int .i64 r.1, .int .i64 r.2]) ∧ Below w.heap.size w w'
theorem net_any (a b c : Int) (v : Value) (ls : List LayV) (classes batch : Int) (w : World) (B : Nat) (hB : B ≤ w.heap.size) (h : LaysOf w B v ls) (hcl : inW classes) (hbt : inW batch) (r : Int × Int) (hr : (walkI false a b c ls classes batch).2 = r) :
    Calls Try.prog 15 #[.agg #[.int .i64 a, .int .i64 b, .int .i64 c, v], .int .i64 classes, .int .i64 batch] w (Duo w r) := by
  subst hr
  obtain ⟨A, cc, rfl⟩ := h.form
  have hb0 := net_one w (.cells #[.int .i64 a, .int .i64 b, .int .i64 c, .slice A ls.length cc] 25)
  have HB0 := Lib.hid hb0
  have hsz : w.heap.size ≤ (w.alloc (.cells #[.int .i64 a, .int .i64 b, .int .i64 c, .slice A ls.length cc] 25)).heap.size := by simp
  obtain ⟨q, hq⟩ : ∃ q, walkI false a b c ls classes batch = q := ⟨_, rfl⟩
  have HC := Lib.hid (walk_any false a b c _ ls classes batch _ B (by omega) (h.below (hb0.mono hB)) hcl hbt q hq)
  rw [hq]
  clear h hb0 hcl hbt hq
  obtain ⟨q1, q2, q3⟩ := q
  go_enter Try.func15, Try.ntmps15
  go_wp2_with fail
  refine HC.out.mono ?_
  rintro en w2 ⟨rfl, hb2⟩
  have HB2 := Lib.hid (HB0.out.trans (hb2.mono hsz))
  clear hb2
  dsimp only
  go_wp2
  refine bodyPost_ret (v := .tuple #[.int .i64 q2, .int .i64 q3]) (by simp [results, Try.results15, go_sem]) rfl ?_
  exact ⟨rfl, HB2.out⟩

def longestI (a b c : Int) (ls : List LayV) (batch : Int) : Int := if (shapesM a b c ls).2.2 ≠ 0 then 0 else (walkI true a b c ls ((lastI (shapesM a b c ls).1).headD 0) batch).1
set_option maxHeartbeats 3200000 in
set_option maxRecDepth 100000 in
theorem longest_any (a b c : Int) (v : Value) (ls : List LayV) (batch : Int) (w : World) (B : Nat) (hB : B ≤ w.heap.size) (h : LaysOf w B v ls) (hbt : inW batch) (r : Int) (hr : longestI a b c ls batch = r) :
    Calls Try.prog 17 #[.agg #[.int .i64 a, .int .i64 b, .int .i64 c, v], .int .i64 batch] w fun en w' => en = .returned (.int .i64 r) ∧ Below w.heap.size w w' := by
  obtain ⟨A, cc, rfl⟩ := h.form
  have hlen := h.len
  have HL := Lib.hid h
  have HR := Lib.hid hr
  have hb0 := net_one w (.cells #[.int .i64 a, .int .i64 b, .int .i64 c, .slice A ls.length cc] 25)
  have HB0 := Lib.hid hb0
  have hsz : w.heap.size < (w.alloc (.cells #[.int .i64 a, .int .i64 b, .int .i64 c, .slice A ls.length cc] 25)).heap.size := by simp
  have KB := Lib.hid (Blk.fresh w 25 [.int .i64 a, .int .i64 b, .int .i64 c, .slice A ls.length cc])
  have HSH : Hid (∀ res, shapesM a b c ls = res → Calls Try.prog 12 #[.agg #[.int .i64 a, .int .i64 b, .int .i64 c, .slice A ls.length cc]] (w.alloc (.cells #[.int .i64 a, .int .i64 b, .int .i64 c, .slice A ls.length cc] 25)) (Shaped (w.alloc (.cells #[.int .i64 a, .int .i64 b, .int .i64 c, .slice A ls.length cc] 25)) res)) :=
    Lib.hid (fun res hres => shapes_any a b c _ ls _ B (by omega) (HL.out.below (HB0.out.mono hB)) res hres)
  clear h hr hb0
  rcases shapesM_cases a b c ls with ⟨hs, hm⟩ | ⟨n, hs, hn1, hn2, hm⟩ | ⟨all, hs, hok⟩
  · have HC := Lib.hid (HSH.out _ hs)
    have HW : Hid (r = 0) := Lib.hid (by rw [← HR.out]; unfold longestI; rw [hs]; rfl)
    clear hs hm
    go_enter Try.func17, Try.ntmps17
    go_wp2_with fail
    refine HC.out.mono ?_
    rintro en w2 ⟨A2, c2, rfl, hrows, hb2⟩
    have HB2 := Lib.hid (HB0.out.trans (hb2.mono (by omega)))
    clear hb2 hrows
    dsimp only
    go_wp2
    go_ret
    rw [HW.out]
    exact ⟨rfl, HB2.out⟩
  · have HC := Lib.hid (HSH.out _ hs)
    have HW : Hid (r = 0) := Lib.hid (by rw [← HR.out]; unfold longestI; rw [hs]; rfl)
    clear hs hm
    go_enter Try.func17, Try.ntmps17
    go_wp2_with fail
    refine HC.out.mono ?_
    rintro en w2 ⟨A2, c2, rfl, hrows, hb2⟩
    have HB2 := Lib.hid (HB0.out.trans (hb2.mono (by omega)))
    clear hb2 hrows
    dsimp only
    go_wp2
    go_ret
    rw [HW.out]
    exact ⟨rfl, HB2.out⟩
  · have HC := Lib.hid (HSH.out _ hs)
    have hml := hok.len
    have HML := Lib.hid hml
    obtain ⟨hm1, ⟨hl1, hl12⟩, hm3⟩ := mayM_parts hok.may
    obtain ⟨dl, hdl⟩ : ∃ dl, all[ls.length]? = some dl := ⟨all[ls.length]'(by omega), List.getElem?_eq_getElem (by omega)⟩
    have hgl := hok.good ls.length dl hdl
    have hpos := hgl.pos
    obtain ⟨x, hx⟩ : ∃ x, dl[0]? = some x := ⟨dl[0]'(by omega), List.getElem?_eq_getElem (by omega)⟩
    have hxb := hgl.bd x (List.mem_of_getElem? hx)
    have hx0 : dl.headD 0 = x := by cases dl with
      | nil => simp at hx
      | cons y d => simp at hx ⊢; exact hx
    have HLI : lastI all = dl := by unfold lastI; rw [hml, Nat.add_sub_cancel, List.getD_eq_getElem?_getD, hdl]; rfl
    obtain ⟨q, hq⟩ : ∃ q, walkI true a b c ls x batch = q := ⟨_, rfl⟩
    have HW : Hid (r = q.1) := Lib.hid (by rw [← HR.out]; unfold longestI; rw [hs]; simp only [ne_eq, not_true_eq_false, if_false]; rw [HLI, hx0, hq])
    have HWK : Hid (∀ W : World, Below w.heap.size w W → Calls Try.prog 34 #[.agg #[.int .i64 a, .int .i64 b, .int .i64 c, .slice A ls.length cc], .int .i64 x, .int .i64 batch, .bool true] W (Three W q)) :=
      Lib.hid (fun W hW => walk_any true a b c _ ls x batch W B (by have := hW.size; omega) (HL.out.below (hW.mono hB)) ⟨by omega, by omega⟩ hbt q hq)
    have HDL := Lib.hid hdl
    have HX := Lib.hid hx
    obtain ⟨q1, q2, q3⟩ := q
    clear hs hok hm1 hm3 hdl hgl hml hx hxb hx0 HLI hq
    go_enter Try.func17, Try.ntmps17
    go_wp2_with fail
    refine HC.out.mono ?_
    rintro en w2 ⟨A2, c2, rfl, hrows, hb2⟩
    have HB2 := Lib.hid (HB0.out.trans (hb2.mono (by omega)))
    have K2 := KB.out.below hb2 hsz
    dsimp only at hrows ⊢
    obtain ⟨gr, og, c3, A3, c4, e1, hgr, hcl1, hrl⟩ := hrows.at_ HDL.out
    injection e1 with e1 _ e3
    subst e1 e3
    rw [HML.out]
    obtain ⟨g1, o1, rfl, hg1, hx1⟩ := cells_of hrl HX.out
    have k0 := K2.cell 0
    have k1 := K2.cell 1
    have k2 := K2.cell 2
    have k3 := K2.cell 3
    simp only [List.getElem?_cons_zero, List.getElem?_cons_succ] at k0 k1 k2 k3
    have z0 : (0 : Int) < (dl.length : Int) := by omega
    have hwk : IntKind.i64.wrap (ls.length : Int) = (ls.length : Int) := IntWalk.i64_in _ (by omega)
    have i0 : 0 ≤ (ls.length : Int) := by omega
    have i1 : (ls.length : Int) < (ls.length : Int) + 1 := by omega
    have hw2 := K2.lt
    clear hb2 hrows hrl
    go_wp2_with fail
    refine wp_region_held_drew (S := (fun w' => w'.cell? ⟨w.heap.size, 0, none⟩ = some (.int .i64 a) ∧ w'.cell? ⟨w.heap.size, 1, none⟩ = some (.int .i64 b) ∧ w'.cell? ⟨w.heap.size, 2, none⟩ = some (.int .i64 c) ∧ w'.cell? ⟨w.heap.size, 3, none⟩ = some (.slice A ls.length cc) ∧ w'.cell? ⟨gr, og + ls.length, none⟩ = some (.slice (some ⟨g1, o1, none⟩) dl.length c4) ∧ w'.cell? ⟨g1, o1, none⟩ = some (.int .i64 x))) (by kernel_rfl) (⟨k0, k1, k2, k3, hcl1, hx1⟩) (fun hHeld => ?_)
    refine' wpAnyH_take (i := 0) (v := _) rfl (by kernel_rfl) (by kernel_rfl) (by kernel_rfl) (fun _ _ _ h => h) (Or.inl ⟨by rfl, ?taq1⟩) (by assumption) ?tbq1
    case taq1 =>
      intro wS hSw
      (try dsimp only at hSw)
      go_simp
      (try (with_reducible rfl))
    (try simp only [List.getElem_toArray, List.getElem_cons_zero, List.getElem_cons_succ, Act.put, List.setIfInBounds_toArray, List.set_cons_zero, List.set_cons_succ])
    refine' wpAnyH_take (i := 1) (v := _) rfl (by kernel_rfl) (by kernel_rfl) (by kernel_rfl) (fun _ _ _ h => h) (Or.inl ⟨by rfl, ?taq2⟩) (by assumption) ?tbq2
    case taq2 =>
      intro wS hSw
      (try dsimp only at hSw)
      go_simp
      (try (with_reducible rfl))
    (try simp only [List.getElem_toArray, List.getElem_cons_zero, List.getElem_cons_succ, Act.put, List.setIfInBounds_toArray, List.set_cons_zero, List.set_cons_succ])
    refine' wpAnyH_take (i := 2) (v := _) rfl (by kernel_rfl) (by kernel_rfl) (by kernel_rfl) (fun _ _ _ h => h) (Or.inl ⟨by rfl, ?taq3⟩) (by assumption) ?tbq3
    case taq3 =>
      intro wS hSw
      (try dsimp only at hSw)
      go_simp
      (try (with_reducible rfl))
    (try simp only [List.getElem_toArray, List.getElem_cons_zero, List.getElem_cons_succ, Act.put, List.setIfInBounds_toArray, List.set_cons_zero, List.set_cons_succ])
    refine' wpAnyH_take (i := 3) (v := _) rfl (by kernel_rfl) (by kernel_rfl) (by kernel_rfl) (fun _ _ _ h => h) (Or.inl ⟨by rfl, ?taq4⟩) (by assumption) ?tbq4
    case taq4 =>
      intro wS hSw
      (try dsimp only at hSw)
      go_simp
      (try (with_reducible rfl))
    (try simp only [List.getElem_toArray, List.getElem_cons_zero, List.getElem_cons_succ, Act.put, List.setIfInBounds_toArray, List.set_cons_zero, List.set_cons_succ])
    refine' wpAnyH_take (i := 4) (v := _) rfl (by kernel_rfl) (by kernel_rfl) (by kernel_rfl) (fun _ _ _ h => h) (Or.inl ⟨by rfl, ?taq5⟩) (by assumption) ?tbq5
    case taq5 =>
      intro wS hSw
      (try dsimp only at hSw)
      go_simp
      (try (with_reducible rfl))
    (try simp only [List.getElem_toArray, List.getElem_cons_zero, List.getElem_cons_succ, Act.put, List.setIfInBounds_toArray, List.set_cons_zero, List.set_cons_succ])
    refine' wpAnyH_take (i := 5) (v := _) rfl (by kernel_rfl) (by kernel_rfl) (by kernel_rfl) (fun _ _ _ h => h) (Or.inl ⟨by rfl, ?taq6⟩) (by assumption) ?tbq6
    case taq6 =>
      intro wS hSw
      (try dsimp only at hSw)
      go_simp
      (try (with_reducible rfl))
    (try simp only [List.getElem_toArray, List.getElem_cons_zero, List.getElem_cons_succ, Act.put, List.setIfInBounds_toArray, List.set_cons_zero, List.set_cons_succ])
    refine' wpAnyH_take (i := 6) (v := _) rfl (by kernel_rfl) (by kernel_rfl) (by kernel_rfl) (fun _ _ _ h => h) (Or.inl ⟨by rfl, ?taq7⟩) (by assumption) ?tbq7
    case taq7 =>
      intro wS hSw
      (try dsimp only at hSw)
      go_simp
      (try (with_reducible rfl))
    (try simp only [List.getElem_toArray, List.getElem_cons_zero, List.getElem_cons_succ, Act.put, List.setIfInBounds_toArray, List.set_cons_zero, List.set_cons_succ])
    refine' wpAnyH_take (i := 7) (v := _) rfl (by kernel_rfl) (by kernel_rfl) (by kernel_rfl) (fun _ _ _ h => h) (Or.inl ⟨by rfl, ?taq8⟩) (by assumption) ?tbq8
    case taq8 =>
      intro wS hSw
      (try dsimp only at hSw)
      go_simp
      (try (with_reducible rfl))
    (try simp only [List.getElem_toArray, List.getElem_cons_zero, List.getElem_cons_succ, Act.put, List.setIfInBounds_toArray, List.set_cons_zero, List.set_cons_succ])
    refine' wpAnyH_take (i := 8) (v := _) rfl (by kernel_rfl) (by kernel_rfl) (by kernel_rfl) (fun _ _ _ h => h) (Or.inl ⟨by rfl, ?taq9⟩) (by assumption) ?tbq9
    case taq9 =>
      intro wS hSw
      (try dsimp only at hSw)
      go_simp
      (try (with_reducible rfl))
    (try simp only [List.getElem_toArray, List.getElem_cons_zero, List.getElem_cons_succ, Act.put, List.setIfInBounds_toArray, List.set_cons_zero, List.set_cons_succ])
    refine' wpAnyH_take (i := 9) (v := _) rfl (by kernel_rfl) (by kernel_rfl) (by kernel_rfl) (fun _ _ _ h => h) (Or.inl ⟨by rfl, ?taq10⟩) (by assumption) ?tbq10
    case taq10 =>
      intro wS hSw
      (try dsimp only at hSw)
      go_simp
      (try (with_reducible rfl))
    (try simp only [List.getElem_toArray, List.getElem_cons_zero, List.getElem_cons_succ, Act.put, List.setIfInBounds_toArray, List.set_cons_zero, List.set_cons_succ])
    refine wpAnyH_ready (rs := [10]) (by kernel_rfl) (by simp) ?_
    refine AllReadyH.cons rfl (fun K9 hK9 => ?_) AllReadyH.nil
    (try simp only [List.getElem_toArray, List.getElem_cons_zero, List.getElem_cons_succ])
    go_simp
    refine (HWK.out w2.drew HB2.out.drew).mono ?_
    rintro en w5 ⟨rfl, hb5⟩
    have HB5 : Hid (Below w2.heap.size w2 w5) := Lib.hid ((Below.refl w2.heap.size w2).drew.trans hb5)
    have hcc := fun (p : Addr) (hp : p.block < w2.heap.size) => HB5.out.cell (p := p) hp
    have c0 := (hcc ⟨w.heap.size, 0, none⟩ hw2).trans k0
    have c1' := (hcc ⟨w.heap.size, 1, none⟩ hw2).trans k1
    have c2' := (hcc ⟨w.heap.size, 2, none⟩ hw2).trans k2
    have c3' := (hcc ⟨w.heap.size, 3, none⟩ hw2).trans k3
    have c4' := (hcc ⟨gr, og + ls.length, none⟩ hgr).trans hcl1
    have c5' := (hcc ⟨g1, o1, none⟩ hg1).trans hx1
    clear hb5 hcc
    dsimp only
    refine hK9.out _ _ (⟨c0, c1', c2', c3', c4', c5'⟩) (fun hHeld9 => ?_)
    clear hK9 K9
    (try simp only [List.getElem_toArray, List.getElem_cons_zero, List.getElem_cons_succ, Act.put, List.setIfInBounds_toArray, List.set_cons_zero, List.set_cons_succ])
    refine' wpAnyH_take (i := 11) (v := _) rfl (by kernel_rfl) (by kernel_rfl) (by kernel_rfl) (fun _ _ _ h => h) (Or.inl ⟨by rfl, ?taq11⟩) (by assumption) ?tbq11
    case taq11 =>
      intro wS hSw
      (try dsimp only at hSw)
      go_simp
      (try (with_reducible rfl))
    (try simp only [List.getElem_toArray, List.getElem_cons_zero, List.getElem_cons_succ, Act.put, List.setIfInBounds_toArray, List.set_cons_zero, List.set_cons_succ])
    refine' wpAnyH_take (i := 12) (v := _) rfl (by kernel_rfl) (by kernel_rfl) (by kernel_rfl) (fun _ _ _ h => h) (Or.inl ⟨by rfl, ?taq12⟩) (by assumption) ?tbq12
    case taq12 =>
      intro wS hSw
      (try dsimp only at hSw)
      go_simp
      (try (with_reducible rfl))
    (try simp only [List.getElem_toArray, List.getElem_cons_zero, List.getElem_cons_succ, Act.put, List.setIfInBounds_toArray, List.set_cons_zero, List.set_cons_succ])
    refine' wpAnyH_take (i := 13) (v := _) rfl (by kernel_rfl) (by kernel_rfl) (by kernel_rfl) (fun _ _ _ h => h) (Or.inl ⟨by rfl, ?taq13⟩) (by assumption) ?tbq13
    case taq13 =>
      intro wS hSw
      (try dsimp only at hSw)
      go_simp
      (try (with_reducible rfl))
    (try simp only [List.getElem_toArray, List.getElem_cons_zero, List.getElem_cons_succ, Act.put, List.setIfInBounds_toArray, List.set_cons_zero, List.set_cons_succ])
    refine' wpAnyH_take (i := 14) (v := _) rfl (by kernel_rfl) (by kernel_rfl) (by kernel_rfl) (fun _ _ _ h => h) (Or.inl ⟨by rfl, ?taq14⟩) (by assumption) ?tbq14
    case taq14 =>
      intro wS hSw
      (try dsimp only at hSw)
      go_simp
      (try (with_reducible rfl))
    (try simp only [List.getElem_toArray, List.getElem_cons_zero, List.getElem_cons_succ, Act.put, List.setIfInBounds_toArray, List.set_cons_zero, List.set_cons_succ])
    refine' wpAnyH_take (i := 15) (v := _) rfl (by kernel_rfl) (by kernel_rfl) (by kernel_rfl) (fun _ _ _ h => h) (Or.inl ⟨by rfl, ?taq15⟩) (by assumption) ?tbq15
    case taq15 =>
      intro wS hSw
      (try dsimp only at hSw)
      go_simp
      (try (with_reducible rfl))
    (try simp only [List.getElem_toArray, List.getElem_cons_zero, List.getElem_cons_succ, Act.put, List.setIfInBounds_toArray, List.set_cons_zero, List.set_cons_succ])
    refine' wpAnyH_take (i := 16) (v := _) rfl (by kernel_rfl) (by kernel_rfl) (by kernel_rfl) (fun _ _ _ h => h) (Or.inl ⟨by rfl, ?taq16⟩) (by assumption) ?tbq16
    case taq16 =>
      intro wS hSw
      (try dsimp only at hSw)
      go_simp
      (try (with_reducible rfl))
    (try simp only [List.getElem_toArray, List.getElem_cons_zero, List.getElem_cons_succ, Act.put, List.setIfInBounds_toArray, List.set_cons_zero, List.set_cons_succ])
    refine' wpAnyH_take (i := 17) (v := _) rfl (by kernel_rfl) (by kernel_rfl) (by kernel_rfl) (fun _ _ _ h => h) (Or.inl ⟨by rfl, ?taq17⟩) (by assumption) ?tbq17
    case taq17 =>
      intro wS hSw
      (try dsimp only at hSw)
      go_simp
      (try (with_reducible rfl))
    (try simp only [List.getElem_toArray, List.getElem_cons_zero, List.getElem_cons_succ, Act.put, List.setIfInBounds_toArray, List.set_cons_zero, List.set_cons_succ])
    refine wpAnyH_done (by kernel_rfl) ?_ _
    have HB9 := HB2.out.trans (HB5.out.mono (HB2.out.size))
    go_wp2
    go_ret
    rw [HW.out]
    exact ⟨rfl, HB9⟩

/-- what flat gives -/
def lflat : LayV := ⟨6, 0, 0, 0, 0, 0, false⟩
def ldense (n : Int) : LayV := ⟨1, n, 0, 0, 0, 0, false⟩
theorem lays_blk {w : World} {g n : Nat} {ls : List LayV} (h : Blk w g 43 (ls.flatMap LayV.cells)) (hn : ls.length = n) (hl : n ≤ 1000) (hok : ∀ l ∈ ls, l.ok) : LaysOf w w.heap.size (.slice (some ⟨g, 0, none⟩) n n) ls := by
  subst hn
  refine ⟨⟨_, _, _, rfl, flat_length LayV.cells 7 ls (fun _ _ => rfl), Nat.le_refl _, by unfold maxLen; omega, fun _ => ⟨g, 0, rfl, h.lt, fun j u hu => by rw [Nat.zero_add, h.cell]; exact hu⟩⟩, Lib.hid hok, ⟨_, _, rfl⟩, by omega⟩
def FlatOf (w : World) (n : Int) (en : Ending) (w' : World) : Prop :=
  ∃ g, en = .returned (.agg #[.int .i64 1, .int .i64 1, .int .i64 2, .slice (some ⟨g, 0, none⟩) 2 2]) ∧ LaysOf w' w'.heap.size (.slice (some ⟨g, 0, none⟩) 2 2) [lflat, ldense n] ∧ Below w.heap.size w w'
theorem flat_any (n : Int) (hn : inW n) (w : World) : Calls Try.prog 29 #[.int .i64 n] w (FlatOf w n) := by
  go_enter Try.func29, Try.ntmps29
  go_wp2
  have hk : Blk ((w.alloc (.cells #[.int .i64 1, .int .i64 1, .int .i64 2, .slice (some ⟨w.heap.size + 1, 0, none⟩) 2 2] 25)).alloc (.cells #[.int .i64 6, .int .i64 0, .int .i64 0, .int .i64 0, .int .i64 0, .int .i64 0, .bool false, .int .i64 1, .int .i64 n, .int .i64 0, .int .i64 0, .int .i64 0, .int .i64 0, .bool false] 43)) w.heap.size 25 [.int .i64 1, .int .i64 1, .int .i64 2, .slice (some ⟨w.heap.size + 1, 0, none⟩) 2 2] := (Blk.fresh w 25 [.int .i64 1, .int .i64 1, .int .i64 2, .slice (some ⟨w.heap.size + 1, 0, none⟩) 2 2]).alloc _
  have hl := Blk.fresh (w.alloc (.cells #[.int .i64 1, .int .i64 1, .int .i64 2, .slice (some ⟨w.heap.size + 1, 0, none⟩) 2 2] 25)) 43 ([lflat, ldense n].flatMap LayV.cells)
  rw [World.size_alloc] at hl
  have k0 := hk.cell 0
  have k1 := hk.cell 1
  have k2 := hk.cell 2
  have k3 := hk.cell 3
  refine bodyPost_ret (v := .agg #[.int .i64 1, .int .i64 1, .int .i64 2, .slice (some ⟨w.heap.size + 1, 0, none⟩) 2 2]) (by simp [results, Try.results29, go_sem, k0, k1, k2, k3]) rfl ?_
  exact ⟨w.heap.size + 1, rfl, lays_blk hl rfl (by omega) (by
    intro l hl
    have h0 : inW 0 := by unfold inW; omega
    have h1 : inW 1 := by unfold inW; omega
    have h6 : inW 6 := by unfold inW; omega
    simp at hl
    rcases hl with rfl | rfl
    · exact ⟨h6, h0, h0, h0, h0, h0⟩
    · exact ⟨h1, hn, h0, h0, h0, h0⟩), net_two w _ _⟩
end Go.Proofs.Ytkileiikffomlaa
