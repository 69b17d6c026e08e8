/- Contract of batch.Of. -/
import Derived.Test.YtfhlailhcfjjaaaBatchOfP
import Derived.Deep.DeepCutAuto
import Derived.Deep.RegionHeld3
import Derived.Deep.DrawnRows
import Derived.Outline
namespace Go.Proofs.Ytfhlailhcfjjaaa
open Go.RowKit
set_option linter.unusedVariables false
set_option linter.unusedSimpArgs false

/-- three cells are put -/
theorem three_ok {w : World} {r : Nat} {t : TypeId} {a' b' c' : Value} (h : Blk w r t [a', b', c']) (a b c : Value) : Off (fun i => i = r) w (((w.setCell ⟨r, 0, none⟩ a).setCell ⟨r, 1, none⟩ b).setCell ⟨r, 2, none⟩ c) ∧ Blk (((w.setCell ⟨r, 0, none⟩ a).setCell ⟨r, 1, none⟩ b).setCell ⟨r, 2, none⟩ c) r t [a, b, c] :=
  ⟨(((Off.refl (fun i => i = r) w).setCell (p := ⟨r, 0, none⟩) (.inl rfl) _).setCell (p := ⟨r, 1, none⟩) (.inl rfl) _).setCell (p := ⟨r, 2, none⟩) (.inl rfl) _, ((h.put 0 a).put 1 b).put 2 c⟩
theorem ofGot_none {w w' : World} {d : DatV} {ids : List Int} (hb : Below w.heap.size w w') (hd : ofOk d ids = false) : OfGot w d ids (.returned (.tuple #[.agg #[.slice none 0 0, .int .i64 0, .slice none 0 0], .slice none 0 0, .int .i64 1])) w' := ⟨hb, .inl ⟨hd, rfl⟩⟩
theorem first3 {W : World} {g : Nat} {t : TypeId} {a b c : Int} {r : List Value} (h : Blk W g t (.int .i64 a :: .int .i64 b :: .int .i64 c :: r)) : Reads W W.heap.size (.slice (some ⟨g, 0, none⟩) 3 3) (ints .i64 [a, b, c]) :=
  ⟨_, _, _, rfl, rfl, Nat.le_refl _, by unfold maxLen; omega, fun _ => ⟨g, 0, rfl, h.lt, fun j u hu => by
    rw [Nat.zero_add, h.cell]
    match j, hu with
    | 0, hu => exact hu
    | 1, hu => exact hu
    | 2, hu => exact hu
    | n + 3, hu => simp [ints] at hu⟩⟩
theorem ofS_start {w0 W : World} {p b1 b2 : Nat} {A0 : Option Addr} {c0 : Nat} {ds : List Int} {e : Int} {t1 t2 : TypeId} {l1 l2 : List Value} (hb : Below w0.heap.size w0 W) (hp : w0.heap.size ≤ p) (hk : Blk W p 47 [.slice A0 4 c0, .int .i64 e, .slice none 0 0])
    (hd : W.ownsRow w0.heap.size 3 1 (.slice A0 4 c0) 4 (ints .i64 ds)) (hne : ∀ k, (Value.slice A0 4 c0).ownBlock = some k → k ≠ p) (h1 : Blk W b1 t1 l1) (n1 : b1 ≠ p) (h2 : Blk W b2 t2 l2) (n2 : b2 ≠ p) :
    OfS w0 W W.heap.size p A0 c0 ds e (.slice none 0 0) [] (.slice none 0 0) [] [(b1, t1, l1), (b2, t2, l2)] := by
  refine ⟨hb, ⟨hp, hk.lt, Nat.le_refl _⟩, hk, World.ownsRow_nil _ _ _ _, World.ownsRow_nil _ _ _ _, by simp [Value.ownBlock], ⟨hd, fun k hk2 => ⟨(hd.lt k hk2).2, hne k hk2⟩⟩, fun b hm => ?_⟩
  simp only [List.mem_cons, List.not_mem_nil, or_false] at hm
  rcases hm with rfl | rfl
  · exact ⟨h1, h1.lt, n1⟩
  · exact ⟨h2, h2.lt, n2⟩
theorem ofOk_may {d : DatV} {ids : List Int} (h : mayD d = false) : ofOk d ids = false := by unfold ofOk; simp [h]
theorem ofOk_len {d : DatV} {ids : List Int} (h : ¬ (1 ≤ ids.length ∧ ids.length ≤ 64)) : ofOk d ids = false := by
  unfold ofOk
  have : (decide (1 ≤ ids.length) && decide (ids.length ≤ 64)) = false := by simpa using h
  simp [this]
theorem ofOk_all {d : DatV} {ids : List Int} (hm : mayD d = true) (h1 : 1 ≤ ids.length) (h2 : ids.length ≤ 64) (h3 : idsOk d ids = true) : ofOk d ids = decide (0 < sizeI (ofDims d ids)) := by
  unfold ofOk
  simp [hm, h1, h2, h3]
theorem Reads.off_small {w w' : World} {B r : Nat} {v : Value} {xs : List Value} {t : TypeId} {a b c : Value} (h : Reads w B v xs) (ho : Off (fun i => i = r) w w') (hb : Blk w r t [a, b, c]) (hl : 4 ≤ xs.length) : Reads w' B v xs := by
  obtain ⟨A, n, c', e, hn, hc, hm, ha⟩ := h
  refine ⟨A, n, c', e, hn, hc, hm, Lib.hid fun h0 => ?_⟩
  obtain ⟨g, o, e2, hg, hx⟩ := ha.out h0
  refine ⟨g, o, e2, hg, fun j u hu => ?_⟩
  have hne : g ≠ r := by
    rintro rfl
    have h3 := hx 3 (xs[3]'(by omega)) (List.getElem?_eq_getElem (by omega))
    rw [hb.cell] at h3
    simp at h3
  rw [← hx j u hu]
  exact ho.cell (World.block_lt_of_cell? w _ (hx j u hu)) hne
theorem istOf {n : Nat} {w0 W : World} {G p : Nat} {A0 : Option Addr} {c0 : Nat} {v lv : Value} {ys ls : List Int} {oth : List (Nat × TypeId × List Value)} {d : DatV} (h : OfS w0 W G p A0 c0 [(n : Int), d.a, d.b, d.c] d.exp v ys lv ls oth) (hm : mayD d = true) (ids : List Int) (hx : ∀ x ∈ ys, -128 ≤ x ∧ x ≤ 127) (hn : (n : Int) ≤ 64) : IsT W W.heap.size (.slice A0 4 c0) v [(n : Int), d.a, d.b, d.c] d.exp ys := by
  have h1 := headI_of (mayD_of hm).1
  refine ⟨Reads.of_own h.dims.1, Reads.of_own h.own, Lib.hid ?_, Lib.hid hx, by omega, by omega⟩
  intro x hx
  simp only [List.mem_cons, List.not_mem_nil, or_false] at hx
  rcases hx with rfl | rfl | rfl | rfl <;> omega
theorem ofGot_yes {w w' : World} {d : DatV} {ids ys ls : List Int} {A1 A2 A3 : Option Addr} {c1 c2 c3 : Nat} (hb : Below w.heap.size w w') (hok : ofOk d ids = true) (hy : ys = ofData d ids) (hl : ls = ofLabels d ids) (h1 : Reads w' w'.heap.size (.slice A1 4 c1) (ints .i64 (ofDims d ids))) (h2 : Reads w' w'.heap.size (.slice A2 ys.length c2) (ints .i8 ys)) (h3 : Reads w' w'.heap.size (.slice A3 ls.length c3) (ints .i64 ls)) :
    OfGot w d ids (.returned (.tuple #[.agg #[.slice A1 4 c1, .int .i64 d.exp, .slice A2 ys.length c2], .slice A3 ls.length c3, .int .i64 0])) w' := by
  subst hy hl
  have e : (ofLabels d ids).length = ids.length := by unfold ofLabels; rw [List.length_map]
  rw [e] at h3 ⊢
  exact ⟨hb, .inr ⟨hok, _, _, _, _, _, _, rfl, h1, h2, h3⟩⟩
set_option maxRecDepth 100000 in
set_option maxHeartbeats 6400000 in
theorem of_any (v : Value) (d : DatV) (u : Value) (ids : List Int) (w : World) (B : Nat) (hB : B ≤ w.heap.size) (h : DataOf w B v d) (hi : Reads w B u (ints .i64 ids)) (hbd : ∀ x ∈ ids, inW x) (hil : ids.length ≤ 17592186044416) : Calls Try.prog 23 #[v, u] w (OfGot w d ids) := by
  have HBY := Lib.hid (show bytesD d from fun e he => (h.xs.ok.out e he).data)
  have h0 := h
  obtain ⟨rfl, hwd, hx⟩ := h
  obtain ⟨A, k, hlv⟩ := hx.form
  rw [hlv] at h0 hx ⊢
  clear hlv
  obtain ⟨Ai, ci, rfl, _, _⟩ := hi.form
  rw [length_ints] at hi ⊢
  have hlen := hx.len
  have hb1 := (one_alloc w (.cells #[.int .i64 d.a, .int .i64 d.b, .int .i64 d.c, .int .i64 d.exp, .int .i64 d.cl, .slice A d.xs.length k] 33)).alloc (by rw [World.size_alloc]; omega) (.cells #[.slice none 0 0, .int .i64 0, .slice none 0 0] 47)
  have hk1 := (Blk.fresh w 33 [.int .i64 d.a, .int .i64 d.b, .int .i64 d.c, .int .i64 d.exp, .int .i64 d.cl, .slice A d.xs.length k]).alloc (.cells #[.slice none 0 0, .int .i64 0, .slice none 0 0] 47)
  have hk2 := Blk.fresh (w.alloc (.cells #[.int .i64 d.a, .int .i64 d.b, .int .i64 d.c, .int .i64 d.exp, .int .i64 d.cl, .slice A d.xs.length k] 33)) 47 [.slice none 0 0, .int .i64 0, .slice none 0 0]
  rw [World.size_alloc] at hk2
  obtain ⟨r, hr⟩ : ∃ r, mayD d = r := ⟨_, rfl⟩
  have HM := Lib.hid (dmay_any _ _ ((w.alloc (.cells #[.int .i64 d.a, .int .i64 d.b, .int .i64 d.c, .int .i64 d.exp, .int .i64 d.cl, .slice A d.xs.length k] 33)).alloc (.cells #[.slice none 0 0, .int .i64 0, .slice none 0 0] 47)) B (by have := hb1.size; omega) (h0.below (hb1.mono hB)) r hr)
  have HB1 := Lib.hid hb1
  have K1 := Lib.hid hk1
  have K2 := Lib.hid hk2
  have HR := Lib.hid hr
  have HX := Lib.hid hx
  have HI := Lib.hid hi
  have HBD := Lib.hid hbd
  have s1 := hb1.size
  have l1 := hk1.lt
  have l2 := hk2.lt
  clear h0 hx hi hbd hb1 hk1 hk2 hr hwd
  go_enter Try.func23, Try.ntmps23
  go_wp2_with fail
  generalize ((w.alloc (.cells #[.int .i64 d.a, .int .i64 d.b, .int .i64 d.c, .int .i64 d.exp, .int .i64 d.cl, .slice A d.xs.length k] 33)).alloc (.cells #[.slice none 0 0, .int .i64 0, .slice none 0 0] 47)) = w1 at HM HB1 K1 K2 s1 l1 l2 ⊢
  refine HM.out.mono ?_
  rintro en w2 ⟨rfl, hw⟩
  have HB2 := Lib.hid (HB1.out.trans (hw.mono s1))
  have K12 := Lib.hid (K1.out.below hw l1)
  have K22 := Lib.hid (K2.out.below hw l2)
  have s2 := HB2.out.size
  have l12 := K12.out.lt
  have l22 := K22.out.lt
  clear hw HM HB1 K1 K2 s1 l1 l2
  cases r with
  | false =>
    have hkr := K22.out
    have hmr : w.heap.size + 1 < w2.heap.size := hkr.lt
    have z0 := hkr.cell 0
    have z1 := hkr.cell 1
    have z2 := hkr.cell 2
    have f0 := hkr.free 0
    have f1 := hkr.free 1
    have f2 := hkr.free 2
    simp only [List.getElem?_cons_zero, List.getElem?_cons_succ] at z0 z1 z2
    clear hkr
    go_wp2_with fail
    have hq := three_ok K22.out (.slice none 0 0) (.int .i64 0) (.slice none 0 0)
    clear z0 z1 z2 f0 f1 f2 hmr
    generalize (((w2.setCell ⟨w.heap.size + 1, 0, none⟩ (.slice none 0 0)).setCell ⟨w.heap.size + 1, 1, none⟩ (.int .i64 0)).setCell ⟨w.heap.size + 1, 2, none⟩ (.slice none 0 0)) = WF at hq ⊢
    obtain ⟨hqo, hqb⟩ := hq
    have n0 := hqb.cell 0
    have n1 := hqb.cell 1
    have n2 := hqb.cell 2
    simp only [List.getElem?_cons_zero, List.getElem?_cons_succ] at n0 n1 n2
    refine bodyPost_ret (v := .tuple #[.agg #[.slice none 0 0, .int .i64 0, .slice none 0 0], .slice none 0 0, .int .i64 1]) ?_ rfl ?_
    · simp [results, Try.results23, asAddr, Result.andThen, n0, n1, n2, go_sem]
    · exact ofGot_none (HB2.out.trans (hqo.below HB2.out.size (fun i hi => by omega))) (ofOk_may HR.out)
  | true =>
    by_cases hl1 : 1 ≤ ids.length
    case neg =>
      have t1 : decide ((ids.length : Int) < 1) = true := by simp; omega
      have HO := Lib.hid (ofOk_len (d := d) (ids := ids) (by omega))
      clear hl1
      have hkr := K22.out
      have hmr : w.heap.size + 1 < w2.heap.size := hkr.lt
      have z0 := hkr.cell 0
      have z1 := hkr.cell 1
      have z2 := hkr.cell 2
      have f0 := hkr.free 0
      have f1 := hkr.free 1
      have f2 := hkr.free 2
      simp only [List.getElem?_cons_zero, List.getElem?_cons_succ] at z0 z1 z2
      clear hkr
      go_wp2_with fail
      have hq := three_ok K22.out (.slice none 0 0) (.int .i64 0) (.slice none 0 0)
      clear z0 z1 z2 f0 f1 f2 hmr
      generalize (((w2.setCell ⟨w.heap.size + 1, 0, none⟩ (.slice none 0 0)).setCell ⟨w.heap.size + 1, 1, none⟩ (.int .i64 0)).setCell ⟨w.heap.size + 1, 2, none⟩ (.slice none 0 0)) = WF at hq ⊢
      obtain ⟨hqo, hqb⟩ := hq
      have n0 := hqb.cell 0
      have n1 := hqb.cell 1
      have n2 := hqb.cell 2
      simp only [List.getElem?_cons_zero, List.getElem?_cons_succ] at n0 n1 n2
      refine bodyPost_ret (v := .tuple #[.agg #[.slice none 0 0, .int .i64 0, .slice none 0 0], .slice none 0 0, .int .i64 1]) ?_ rfl ?_
      · simp [results, Try.results23, asAddr, Result.andThen, n0, n1, n2, go_sem]
      · exact ofGot_none (HB2.out.trans (hqo.below HB2.out.size (fun i hi => by omega))) HO.out
    have t1 : decide ((ids.length : Int) < 1) = false := by simp; omega
    by_cases hl2 : ids.length ≤ 64
    case neg =>
      have t2 : decide (64 < (ids.length : Int)) = true := by simp; omega
      have HO := Lib.hid (ofOk_len (d := d) (ids := ids) (by omega))
      clear hl2
      have hkr := K22.out
      have hmr : w.heap.size + 1 < w2.heap.size := hkr.lt
      have z0 := hkr.cell 0
      have z1 := hkr.cell 1
      have z2 := hkr.cell 2
      have f0 := hkr.free 0
      have f1 := hkr.free 1
      have f2 := hkr.free 2
      simp only [List.getElem?_cons_zero, List.getElem?_cons_succ] at z0 z1 z2
      clear hkr
      go_wp2_with fail
      have hq := three_ok K22.out (.slice none 0 0) (.int .i64 0) (.slice none 0 0)
      clear z0 z1 z2 f0 f1 f2 hmr
      generalize (((w2.setCell ⟨w.heap.size + 1, 0, none⟩ (.slice none 0 0)).setCell ⟨w.heap.size + 1, 1, none⟩ (.int .i64 0)).setCell ⟨w.heap.size + 1, 2, none⟩ (.slice none 0 0)) = WF at hq ⊢
      obtain ⟨hqo, hqb⟩ := hq
      have n0 := hqb.cell 0
      have n1 := hqb.cell 1
      have n2 := hqb.cell 2
      simp only [List.getElem?_cons_zero, List.getElem?_cons_succ] at n0 n1 n2
      refine bodyPost_ret (v := .tuple #[.agg #[.slice none 0 0, .int .i64 0, .slice none 0 0], .slice none 0 0, .int .i64 1]) ?_ rfl ?_
      · simp [results, Try.results23, asAddr, Result.andThen, n0, n1, n2, go_sem]
      · exact ofGot_none (HB2.out.trans (hqo.below HB2.out.size (fun i hi => by omega))) HO.out
    have t2 : decide (64 < (ids.length : Int)) = false := by simp; omega
    go_upto_region 3 with fail
    go_cut [7] (fun s wx => ∃ (p : Nat) (A0 : Option Addr) (c0 : Nat), s = .pointer (some ⟨p, 0, none⟩) ∧ Hid (OfS w wx wx.heap.size p A0 c0 [(ids.length : Int), d.a, d.b, d.c] d.exp (.slice none 0 0) [] (.slice none 0 0) [] [(w.heap.size, 33, [.int .i64 d.a, .int .i64 d.b, .int .i64 d.c, .int .i64 d.exp, .int .i64 d.cl, .slice A d.xs.length k]), (w.heap.size + 1, 47, [.slice none 0 0, .int .i64 0, .slice none 0 0])]))
    case first =>
      refine wp_region_held_drew (S := ((fun w' => Blk w' w.heap.size 33 [.int .i64 d.a, .int .i64 d.b, .int .i64 d.c, .int .i64 d.exp, .int .i64 d.cl, .slice A d.xs.length k]))) (by kernel_rfl) (K12.out.drew) (fun hHeld => ?_)
      refine' wpAnyH_take (i := 0) (v := _) rfl (by kernel_rfl) (by kernel_rfl) (by kernel_rfl) (fun _ _ _ h => h) (Or.inl ⟨by rfl, ?taq1⟩) (by assumption) ?tbq1
      case taq1 =>
        intro wS hSw
        (try dsimp only at hSw)
        (have m3 := hSw.cell 3; simp only [List.getElem?_cons_zero, List.getElem?_cons_succ] at m3; clear hSw; go_simp)
        (try (with_reducible rfl))
      (try simp only [List.getElem_toArray, List.getElem_cons_zero, List.getElem_cons_succ, Act.put, List.setIfInBounds_toArray, List.set_cons_zero, List.set_cons_succ])
      refine' wpAnyH_take (i := 1) (v := _) rfl (by kernel_rfl) (by kernel_rfl) (by kernel_rfl) (fun _ _ _ h => h) (Or.inl ⟨by rfl, ?taq2⟩) (by assumption) ?tbq2
      case taq2 =>
        intro wS hSw
        (try dsimp only at hSw)
        (have m3 := hSw.cell 3; simp only [List.getElem?_cons_zero, List.getElem?_cons_succ] at m3; clear hSw; go_simp)
        (try (with_reducible rfl))
      (try simp only [List.getElem_toArray, List.getElem_cons_zero, List.getElem_cons_succ, Act.put, List.setIfInBounds_toArray, List.set_cons_zero, List.set_cons_succ])
      refine' wpAnyH_take (i := 3) (v := _) rfl (by kernel_rfl) (by kernel_rfl) (by kernel_rfl) (fun _ _ _ h => h) (Or.inl ⟨by rfl, ?taq3⟩) (by assumption) ?tbq3
      case taq3 =>
        intro wS hSw
        (try dsimp only at hSw)
        (have m3 := hSw.cell 3; simp only [List.getElem?_cons_zero, List.getElem?_cons_succ] at m3; clear hSw; go_simp)
        (try (with_reducible rfl))
      (try simp only [List.getElem_toArray, List.getElem_cons_zero, List.getElem_cons_succ, Act.put, List.setIfInBounds_toArray, List.set_cons_zero, List.set_cons_succ])
      refine' wpAnyH_take (i := 4) (v := _) rfl (by kernel_rfl) (by kernel_rfl) (by kernel_rfl) (fun _ _ _ h => h) (Or.inl ⟨by rfl, ?taq4⟩) (by assumption) ?tbq4
      case taq4 =>
        intro wS hSw
        (try dsimp only at hSw)
        (have m3 := hSw.cell 3; simp only [List.getElem?_cons_zero, List.getElem?_cons_succ] at m3; clear hSw; go_simp)
        (try (with_reducible rfl))
      (try simp only [List.getElem_toArray, List.getElem_cons_zero, List.getElem_cons_succ, Act.put, List.setIfInBounds_toArray, List.set_cons_zero, List.set_cons_succ])
      refine' wpAnyH_take (i := 7) (v := _) rfl (by kernel_rfl) (by kernel_rfl) (by kernel_rfl) (fun _ _ _ h => h) (Or.inl ⟨by rfl, ?taq5⟩) (by assumption) ?tbq5
      case taq5 =>
        intro wS hSw
        (try dsimp only at hSw)
        (have m3 := hSw.cell 3; simp only [List.getElem?_cons_zero, List.getElem?_cons_succ] at m3; clear hSw; go_simp)
        (try (with_reducible rfl))
      (try simp only [List.getElem_toArray, List.getElem_cons_zero, List.getElem_cons_succ, Act.put, List.setIfInBounds_toArray, List.set_cons_zero, List.set_cons_succ])
      refine' wpAnyH_take (i := 8) (v := _) rfl (by kernel_rfl) (by kernel_rfl) (by kernel_rfl) (fun _ _ _ h => h) (Or.inl ⟨by rfl, ?taq6⟩) (by assumption) ?tbq6
      case taq6 =>
        intro wS hSw
        (try dsimp only at hSw)
        (have m3 := hSw.cell 3; simp only [List.getElem?_cons_zero, List.getElem?_cons_succ] at m3; clear hSw; go_simp)
        (try (with_reducible rfl))
      (try simp only [List.getElem_toArray, List.getElem_cons_zero, List.getElem_cons_succ, Act.put, List.setIfInBounds_toArray, List.set_cons_zero, List.set_cons_succ])
      refine wpAnyH_ready (rs := [2, 10]) (by kernel_rfl) (by simp) ?_
      refine AllReadyH.cons rfl (fun K9 hK9 => ?_) (AllReadyH.cons rfl (fun K9 hK9 => ?_) AllReadyH.nil)
      ·
        (try simp only [List.getElem_toArray, List.getElem_cons_zero, List.getElem_cons_succ])
        go_simp
        refine hK9.out _ _ (((K12.out.alloc (.cells #[.int .i64 ids.length] 3)).drew)) (fun hHeld9 => ?_)
        clear hK9 K9
        (try simp only [List.getElem_toArray, List.getElem_cons_zero, List.getElem_cons_succ, Act.put, List.setIfInBounds_toArray, List.set_cons_zero, List.set_cons_succ])
        refine wpAnyH_ready (rs := [5, 10]) (by kernel_rfl) (by simp) ?_
        refine AllReadyH.cons rfl (fun K9 hK9 => ?_) (AllReadyH.cons rfl (fun K9 hK9 => ?_) AllReadyH.nil)
        ·
          (try simp only [List.getElem_toArray, List.getElem_cons_zero, List.getElem_cons_succ])
          go_simp
          refine hK9.out _ _ ((((K12.out.alloc (.cells #[.int .i64 ids.length] 3)).alloc (.cells #[.slice (some ⟨w2.heap.size, 0, none⟩) 1 1, .slice (some ⟨w.heap.size, 0, none⟩) 3 3] 24)).drew)) (fun hHeld9 => ?_)
          clear hK9 K9
          (try simp only [List.getElem_toArray, List.getElem_cons_zero, List.getElem_cons_succ, Act.put, List.setIfInBounds_toArray, List.set_cons_zero, List.set_cons_succ])
          refine wpAnyH_ready (rs := [6, 10]) (by kernel_rfl) (by simp) ?_
          refine AllReadyH.cons rfl (fun K9 hK9 => ?_) (AllReadyH.cons rfl (fun K9 hK9 => ?_) AllReadyH.nil)
          ·
            (try simp only [List.getElem_toArray, List.getElem_cons_zero, List.getElem_cons_succ])
            go_simp
            have hk1 := ((Blk.fresh w2 3 [.int .i64 ids.length]).alloc (.cells #[.slice (some ⟨w2.heap.size, 0, none⟩) 1 1, .slice (some ⟨w.heap.size, 0, none⟩) 3 3] 24)).drew
            have hk2 := (Blk.fresh (w2.alloc (.cells #[.int .i64 ids.length] 3)) 24 [.slice (some ⟨w2.heap.size, 0, none⟩) 1 1, .slice (some ⟨w.heap.size, 0, none⟩) 3 3]).drew
            simp only [World.size_alloc] at hk1 hk2
            have hkd := ((K12.out.alloc (.cells #[.int .i64 ids.length] 3)).alloc (.cells #[.slice (some ⟨w2.heap.size, 0, none⟩) 1 1, .slice (some ⟨w.heap.size, 0, none⟩) 3 3] 24)).drew
            have hkz := ((K22.out.alloc (.cells #[.int .i64 ids.length] 3)).alloc (.cells #[.slice (some ⟨w2.heap.size, 0, none⟩) 1 1, .slice (some ⟨w.heap.size, 0, none⟩) 3 3] 24)).drew
            have hbx := ((HB2.out.alloc (by  omega) (.cells #[.int .i64 ids.length] 3)).alloc (by rw [World.size_alloc]; omega) (.cells #[.slice (some ⟨w2.heap.size, 0, none⟩) 1 1, .slice (some ⟨w.heap.size, 0, none⟩) 3 3] 24)).drew
            have hzx : ((w2.alloc (.cells #[.int .i64 ids.length] 3)).alloc (.cells #[.slice (some ⟨w2.heap.size, 0, none⟩) 1 1, .slice (some ⟨w.heap.size, 0, none⟩) 3 3] 24)).drew.heap.size = w2.heap.size + 1 + 1 := by simp only [heap_drew, World.size_alloc]
            generalize ((w2.alloc (.cells #[.int .i64 ids.length] 3)).alloc (.cells #[.slice (some ⟨w2.heap.size, 0, none⟩) 1 1, .slice (some ⟨w.heap.size, 0, none⟩) 3 3] 24)).drew = wx at hk1 hk2  hkd hkz hbx hzx ⊢
            have hr1 := hk1.reads (n := 1) rfl (by unfold maxLen; omega)
            have hr2 := first3 hkd
            have hsx := hbx.size
            refine (concat_any [(ids.length : Int)] [d.a, d.b, d.c] _ _ _ wx wx.heap.size (Nat.le_refl _) hr1 hr2 hk2 (by simp) (by simp)).mono ?_
            rintro en w5 ⟨A0, c0, rfl, hown, hb5⟩
            (try simp only [List.cons_append, List.nil_append, List.length_cons, List.length_nil, Nat.zero_add, Nat.reduceAdd] at hown ⊢)
            have HB5 := Lib.hid (hbx.trans (hb5.mono hsx))
            have s5 := HB5.out.size
            have K5 := Lib.hid (hkd.below hb5 hkd.lt)
            have Z5 := Lib.hid (hkz.below hb5 hkz.lt)
            have l5 := K5.out.lt
            have m5 := Z5.out.lt
            have OD := Lib.hid (own_lower hown hsx)

            clear hk1 hk2  hkd hkz hbx hr1 hr2 hown hb5
            refine hK9.out _ _ (K5.out) (fun hHeld9 => ?_)
            clear hK9 K9
            (try simp only [List.getElem_toArray, List.getElem_cons_zero, List.getElem_cons_succ, Act.put, List.setIfInBounds_toArray, List.set_cons_zero, List.set_cons_succ])
            refine' wpAnyH_take (i := 9) (v := _) rfl (by kernel_rfl) (by kernel_rfl) (by kernel_rfl) (fun _ _ _ h => h) (Or.inl ⟨by rfl, ?taq7⟩) (by assumption) ?tbq7
            case taq7 =>
              intro wS hSw
              (try dsimp only at hSw)
              go_simp
              (try (with_reducible rfl))
            (try simp only [List.getElem_toArray, List.getElem_cons_zero, List.getElem_cons_succ, Act.put, List.setIfInBounds_toArray, List.set_cons_zero, List.set_cons_succ])
            refine wpAnyH_ready (rs := [10]) (by kernel_rfl) (by simp) ?_
            refine AllReadyH.cons rfl (fun K9 hK9 => ?_) AllReadyH.nil
            (try simp only [List.getElem_toArray, List.getElem_cons_zero, List.getElem_cons_succ])
            go_simp
            refine hK9.out _ _ (K5.out.alloc _) (fun hHeld9 => ?_)
            clear hK9 K9
            (try simp only [List.getElem_toArray, List.getElem_cons_zero, List.getElem_cons_succ, Act.put, List.setIfInBounds_toArray, List.set_cons_zero, List.set_cons_succ])
            refine wpAnyH_ready (rs := [11]) (by kernel_rfl) (by simp) ?_
            refine AllReadyH.cons rfl (fun K9 hK9 => ?_) AllReadyH.nil
            (try simp only [List.getElem_toArray, List.getElem_cons_zero, List.getElem_cons_succ])
            go_simp
            have HF := Lib.hid (ofS_start (HB5.out.alloc s5 (.cells #[.slice A0 4 c0, .int .i64 d.exp, .slice none 0 0] 47)) s5 (Blk.fresh w5 47 [.slice A0 4 c0, .int .i64 d.exp, .slice none 0 0]) (OD.out.alloc _) (fun k hk => by have := (OD.out.lt k hk).2; omega) (K5.out.alloc _) (by omega) (Z5.out.alloc _) (by omega))
            refine hK9.out _ _ (K5.out.alloc _) (fun hHeld9 => ?_)
            clear hK9 K9
            (try simp only [List.getElem_toArray, List.getElem_cons_zero, List.getElem_cons_succ, Act.put, List.setIfInBounds_toArray, List.set_cons_zero, List.set_cons_succ])
            refine wpAnyH_done (by kernel_rfl) ?_ _
            go_wp2_with fail
            go_meet
            case rel => exact ⟨_, A0, c0, rfl, HF⟩
          ·
            (try simp only [List.getElem_toArray, List.getElem_cons_zero, List.getElem_cons_succ])
            go_simp
            refine hK9.out _ _ (((((K12.out.alloc (.cells #[.int .i64 ids.length] 3)).alloc (.cells #[.slice (some ⟨w2.heap.size, 0, none⟩) 1 1, .slice (some ⟨w.heap.size, 0, none⟩) 3 3] 24)).alloc (.cells #[.slice none 0 0, .int .i64 0, .slice none 0 0] 47)).drew)) (fun hHeld9 => ?_)
            clear hK9 K9
            (try simp only [List.getElem_toArray, List.getElem_cons_zero, List.getElem_cons_succ, Act.put, List.setIfInBounds_toArray, List.set_cons_zero, List.set_cons_succ])
            refine wpAnyH_ready (rs := [6]) (by kernel_rfl) (by simp) ?_
            refine AllReadyH.cons rfl (fun K9 hK9 => ?_) AllReadyH.nil
            (try simp only [List.getElem_toArray, List.getElem_cons_zero, List.getElem_cons_succ])
            go_simp
            have hk1 := (((Blk.fresh w2 3 [.int .i64 ids.length]).alloc (.cells #[.slice (some ⟨w2.heap.size, 0, none⟩) 1 1, .slice (some ⟨w.heap.size, 0, none⟩) 3 3] 24)).alloc (.cells #[.slice none 0 0, .int .i64 0, .slice none 0 0] 47)).drew
            have hk2 := ((Blk.fresh (w2.alloc (.cells #[.int .i64 ids.length] 3)) 24 [.slice (some ⟨w2.heap.size, 0, none⟩) 1 1, .slice (some ⟨w.heap.size, 0, none⟩) 3 3]).alloc (.cells #[.slice none 0 0, .int .i64 0, .slice none 0 0] 47)).drew
            have hk3 := (Blk.fresh ((w2.alloc (.cells #[.int .i64 ids.length] 3)).alloc (.cells #[.slice (some ⟨w2.heap.size, 0, none⟩) 1 1, .slice (some ⟨w.heap.size, 0, none⟩) 3 3] 24)) 47 [.slice none 0 0, .int .i64 0, .slice none 0 0]).drew
            simp only [World.size_alloc] at hk1 hk2 hk3
            have hkd := (((K12.out.alloc (.cells #[.int .i64 ids.length] 3)).alloc (.cells #[.slice (some ⟨w2.heap.size, 0, none⟩) 1 1, .slice (some ⟨w.heap.size, 0, none⟩) 3 3] 24)).alloc (.cells #[.slice none 0 0, .int .i64 0, .slice none 0 0] 47)).drew
            have hkz := (((K22.out.alloc (.cells #[.int .i64 ids.length] 3)).alloc (.cells #[.slice (some ⟨w2.heap.size, 0, none⟩) 1 1, .slice (some ⟨w.heap.size, 0, none⟩) 3 3] 24)).alloc (.cells #[.slice none 0 0, .int .i64 0, .slice none 0 0] 47)).drew
            have hbx := (((HB2.out.alloc (by  omega) (.cells #[.int .i64 ids.length] 3)).alloc (by rw [World.size_alloc]; omega) (.cells #[.slice (some ⟨w2.heap.size, 0, none⟩) 1 1, .slice (some ⟨w.heap.size, 0, none⟩) 3 3] 24)).alloc (by rw [World.size_alloc, World.size_alloc]; omega) (.cells #[.slice none 0 0, .int .i64 0, .slice none 0 0] 47)).drew
            have hzx : (((w2.alloc (.cells #[.int .i64 ids.length] 3)).alloc (.cells #[.slice (some ⟨w2.heap.size, 0, none⟩) 1 1, .slice (some ⟨w.heap.size, 0, none⟩) 3 3] 24)).alloc (.cells #[.slice none 0 0, .int .i64 0, .slice none 0 0] 47)).drew.heap.size = w2.heap.size + 1 + 1 + 1 := by simp only [heap_drew, World.size_alloc]
            generalize (((w2.alloc (.cells #[.int .i64 ids.length] 3)).alloc (.cells #[.slice (some ⟨w2.heap.size, 0, none⟩) 1 1, .slice (some ⟨w.heap.size, 0, none⟩) 3 3] 24)).alloc (.cells #[.slice none 0 0, .int .i64 0, .slice none 0 0] 47)).drew = wx at hk1 hk2 hk3 hkd hkz hbx hzx ⊢
            have hr1 := hk1.reads (n := 1) rfl (by unfold maxLen; omega)
            have hr2 := first3 hkd
            have hsx := hbx.size
            refine (concat_any [(ids.length : Int)] [d.a, d.b, d.c] _ _ _ wx wx.heap.size (Nat.le_refl _) hr1 hr2 hk2 (by simp) (by simp)).mono ?_
            rintro en w5 ⟨A0, c0, rfl, hown, hb5⟩
            (try simp only [List.cons_append, List.nil_append, List.length_cons, List.length_nil, Nat.zero_add, Nat.reduceAdd] at hown ⊢)
            have HB5 := Lib.hid (hbx.trans (hb5.mono hsx))
            have s5 := HB5.out.size
            have K5 := Lib.hid (hkd.below hb5 hkd.lt)
            have Z5 := Lib.hid (hkz.below hb5 hkz.lt)
            have l5 := K5.out.lt
            have m5 := Z5.out.lt
            have OD := Lib.hid (own_lower hown hsx)
            have T5 := Lib.hid (hk3.below hb5 hk3.lt)
            have ND := Lib.hid (fun k hk => show ¬ (k = w2.heap.size + 1 + 1) from fun e => by have h1 := (hown.lt k hk).1; have h2 := hk3.lt; omega)
            clear hk1 hk2 hk3 hkd hkz hbx hr1 hr2 hown hb5
            refine hK9.out _ _ (K5.out) (fun hHeld9 => ?_)
            clear hK9 K9
            (try simp only [List.getElem_toArray, List.getElem_cons_zero, List.getElem_cons_succ, Act.put, List.setIfInBounds_toArray, List.set_cons_zero, List.set_cons_succ])
            refine' wpAnyH_take (i := 9) (v := _) rfl (by kernel_rfl) (by kernel_rfl) (by kernel_rfl) (fun _ _ _ h => h) (Or.inl ⟨by rfl, ?taq8⟩) (by assumption) ?tbq8
            case taq8 =>
              intro wS hSw
              (try dsimp only at hSw)
              go_simp
              (try (with_reducible rfl))
            (try simp only [List.getElem_toArray, List.getElem_cons_zero, List.getElem_cons_succ, Act.put, List.setIfInBounds_toArray, List.set_cons_zero, List.set_cons_succ])
            have q0 := T5.out.cell 0
            have q1 := T5.out.cell 1
            have q2 := T5.out.cell 2
            have f0 := T5.out.free 0
            have f1 := T5.out.free 1
            have f2 := T5.out.free 2
            have lp := T5.out.lt
            simp only [List.getElem?_cons_zero, List.getElem?_cons_succ] at q0 q1 q2
            refine wpAnyH_ready (rs := [11]) (by kernel_rfl) (by simp) ?_
            refine AllReadyH.cons rfl (fun K9 hK9 => ?_) AllReadyH.nil
            (try simp only [List.getElem_toArray, List.getElem_cons_zero, List.getElem_cons_succ])
            go_simp
            have h3 := three_ok T5.out (.slice A0 4 c0) (.int .i64 d.exp) (.slice none 0 0)
            have HF := Lib.hid (ofS_start (HB5.out.trans (h3.1.below s5 (fun i hi => by omega))) (by omega) h3.2 (own_off OD.out h3.1 (fun k hk => ND.out k hk)) (fun k hk => ND.out k hk) (K5.out.off h3.1 (by omega)) (by omega) (Z5.out.off h3.1 (by omega)) (by omega))
            have HKF := Lib.hid (K5.out.off h3.1 (by omega))
            clear q0 q1 q2 f0 f1 f2 h3
            refine hK9.out _ _ (HKF.out) (fun hHeld9 => ?_)
            clear hK9 K9
            (try simp only [List.getElem_toArray, List.getElem_cons_zero, List.getElem_cons_succ, Act.put, List.setIfInBounds_toArray, List.set_cons_zero, List.set_cons_succ])
            refine wpAnyH_done (by kernel_rfl) ?_ _
            go_wp2_with fail
            go_meet
            case rel => exact ⟨_, A0, c0, rfl, HF⟩
        ·
          (try simp only [List.getElem_toArray, List.getElem_cons_zero, List.getElem_cons_succ])
          go_simp
          refine hK9.out _ _ ((((K12.out.alloc (.cells #[.int .i64 ids.length] 3)).alloc (.cells #[.slice none 0 0, .int .i64 0, .slice none 0 0] 47)).drew)) (fun hHeld9 => ?_)
          clear hK9 K9
          (try simp only [List.getElem_toArray, List.getElem_cons_zero, List.getElem_cons_succ, Act.put, List.setIfInBounds_toArray, List.set_cons_zero, List.set_cons_succ])
          refine wpAnyH_ready (rs := [5]) (by kernel_rfl) (by simp) ?_
          refine AllReadyH.cons rfl (fun K9 hK9 => ?_) AllReadyH.nil
          (try simp only [List.getElem_toArray, List.getElem_cons_zero, List.getElem_cons_succ])
          go_simp
          refine hK9.out _ _ (((((K12.out.alloc (.cells #[.int .i64 ids.length] 3)).alloc (.cells #[.slice none 0 0, .int .i64 0, .slice none 0 0] 47)).alloc (.cells #[.slice (some ⟨w2.heap.size, 0, none⟩) 1 1, .slice (some ⟨w.heap.size, 0, none⟩) 3 3] 24)).drew)) (fun hHeld9 => ?_)
          clear hK9 K9
          (try simp only [List.getElem_toArray, List.getElem_cons_zero, List.getElem_cons_succ, Act.put, List.setIfInBounds_toArray, List.set_cons_zero, List.set_cons_succ])
          refine wpAnyH_ready (rs := [6]) (by kernel_rfl) (by simp) ?_
          refine AllReadyH.cons rfl (fun K9 hK9 => ?_) AllReadyH.nil
          (try simp only [List.getElem_toArray, List.getElem_cons_zero, List.getElem_cons_succ])
          go_simp
          have hk1 := (((Blk.fresh w2 3 [.int .i64 ids.length]).alloc (.cells #[.slice none 0 0, .int .i64 0, .slice none 0 0] 47)).alloc (.cells #[.slice (some ⟨w2.heap.size, 0, none⟩) 1 1, .slice (some ⟨w.heap.size, 0, none⟩) 3 3] 24)).drew
          have hk2 := (Blk.fresh ((w2.alloc (.cells #[.int .i64 ids.length] 3)).alloc (.cells #[.slice none 0 0, .int .i64 0, .slice none 0 0] 47)) 24 [.slice (some ⟨w2.heap.size, 0, none⟩) 1 1, .slice (some ⟨w.heap.size, 0, none⟩) 3 3]).drew
          have hk3 := ((Blk.fresh (w2.alloc (.cells #[.int .i64 ids.length] 3)) 47 [.slice none 0 0, .int .i64 0, .slice none 0 0]).alloc (.cells #[.slice (some ⟨w2.heap.size, 0, none⟩) 1 1, .slice (some ⟨w.heap.size, 0, none⟩) 3 3] 24)).drew
          simp only [World.size_alloc] at hk1 hk2 hk3
          have hkd := (((K12.out.alloc (.cells #[.int .i64 ids.length] 3)).alloc (.cells #[.slice none 0 0, .int .i64 0, .slice none 0 0] 47)).alloc (.cells #[.slice (some ⟨w2.heap.size, 0, none⟩) 1 1, .slice (some ⟨w.heap.size, 0, none⟩) 3 3] 24)).drew
          have hkz := (((K22.out.alloc (.cells #[.int .i64 ids.length] 3)).alloc (.cells #[.slice none 0 0, .int .i64 0, .slice none 0 0] 47)).alloc (.cells #[.slice (some ⟨w2.heap.size, 0, none⟩) 1 1, .slice (some ⟨w.heap.size, 0, none⟩) 3 3] 24)).drew
          have hbx := (((HB2.out.alloc (by  omega) (.cells #[.int .i64 ids.length] 3)).alloc (by rw [World.size_alloc]; omega) (.cells #[.slice none 0 0, .int .i64 0, .slice none 0 0] 47)).alloc (by rw [World.size_alloc, World.size_alloc]; omega) (.cells #[.slice (some ⟨w2.heap.size, 0, none⟩) 1 1, .slice (some ⟨w.heap.size, 0, none⟩) 3 3] 24)).drew
          have hzx : (((w2.alloc (.cells #[.int .i64 ids.length] 3)).alloc (.cells #[.slice none 0 0, .int .i64 0, .slice none 0 0] 47)).alloc (.cells #[.slice (some ⟨w2.heap.size, 0, none⟩) 1 1, .slice (some ⟨w.heap.size, 0, none⟩) 3 3] 24)).drew.heap.size = w2.heap.size + 1 + 1 + 1 := by simp only [heap_drew, World.size_alloc]
          generalize (((w2.alloc (.cells #[.int .i64 ids.length] 3)).alloc (.cells #[.slice none 0 0, .int .i64 0, .slice none 0 0] 47)).alloc (.cells #[.slice (some ⟨w2.heap.size, 0, none⟩) 1 1, .slice (some ⟨w.heap.size, 0, none⟩) 3 3] 24)).drew = wx at hk1 hk2 hk3 hkd hkz hbx hzx ⊢
          have hr1 := hk1.reads (n := 1) rfl (by unfold maxLen; omega)
          have hr2 := first3 hkd
          have hsx := hbx.size
          refine (concat_any [(ids.length : Int)] [d.a, d.b, d.c] _ _ _ wx wx.heap.size (Nat.le_refl _) hr1 hr2 hk2 (by simp) (by simp)).mono ?_
          rintro en w5 ⟨A0, c0, rfl, hown, hb5⟩
          (try simp only [List.cons_append, List.nil_append, List.length_cons, List.length_nil, Nat.zero_add, Nat.reduceAdd] at hown ⊢)
          have HB5 := Lib.hid (hbx.trans (hb5.mono hsx))
          have s5 := HB5.out.size
          have K5 := Lib.hid (hkd.below hb5 hkd.lt)
          have Z5 := Lib.hid (hkz.below hb5 hkz.lt)
          have l5 := K5.out.lt
          have m5 := Z5.out.lt
          have OD := Lib.hid (own_lower hown hsx)
          have T5 := Lib.hid (hk3.below hb5 hk3.lt)
          have ND := Lib.hid (fun k hk => show ¬ (k = w2.heap.size + 1) from fun e => by have h1 := (hown.lt k hk).1; have h2 := hk3.lt; omega)
          clear hk1 hk2 hk3 hkd hkz hbx hr1 hr2 hown hb5
          refine hK9.out _ _ (K5.out) (fun hHeld9 => ?_)
          clear hK9 K9
          (try simp only [List.getElem_toArray, List.getElem_cons_zero, List.getElem_cons_succ, Act.put, List.setIfInBounds_toArray, List.set_cons_zero, List.set_cons_succ])
          refine' wpAnyH_take (i := 9) (v := _) rfl (by kernel_rfl) (by kernel_rfl) (by kernel_rfl) (fun _ _ _ h => h) (Or.inl ⟨by rfl, ?taq9⟩) (by assumption) ?tbq9
          case taq9 =>
            intro wS hSw
            (try dsimp only at hSw)
            go_simp
            (try (with_reducible rfl))
          (try simp only [List.getElem_toArray, List.getElem_cons_zero, List.getElem_cons_succ, Act.put, List.setIfInBounds_toArray, List.set_cons_zero, List.set_cons_succ])
          have q0 := T5.out.cell 0
          have q1 := T5.out.cell 1
          have q2 := T5.out.cell 2
          have f0 := T5.out.free 0
          have f1 := T5.out.free 1
          have f2 := T5.out.free 2
          have lp := T5.out.lt
          simp only [List.getElem?_cons_zero, List.getElem?_cons_succ] at q0 q1 q2
          refine wpAnyH_ready (rs := [11]) (by kernel_rfl) (by simp) ?_
          refine AllReadyH.cons rfl (fun K9 hK9 => ?_) AllReadyH.nil
          (try simp only [List.getElem_toArray, List.getElem_cons_zero, List.getElem_cons_succ])
          go_simp
          have h3 := three_ok T5.out (.slice A0 4 c0) (.int .i64 d.exp) (.slice none 0 0)
          have HF := Lib.hid (ofS_start (HB5.out.trans (h3.1.below s5 (fun i hi => by omega))) (by omega) h3.2 (own_off OD.out h3.1 (fun k hk => ND.out k hk)) (fun k hk => ND.out k hk) (K5.out.off h3.1 (by omega)) (by omega) (Z5.out.off h3.1 (by omega)) (by omega))
          have HKF := Lib.hid (K5.out.off h3.1 (by omega))
          clear q0 q1 q2 f0 f1 f2 h3
          refine hK9.out _ _ (HKF.out) (fun hHeld9 => ?_)
          clear hK9 K9
          (try simp only [List.getElem_toArray, List.getElem_cons_zero, List.getElem_cons_succ, Act.put, List.setIfInBounds_toArray, List.set_cons_zero, List.set_cons_succ])
          refine wpAnyH_done (by kernel_rfl) ?_ _
          go_wp2_with fail
          go_meet
          case rel => exact ⟨_, A0, c0, rfl, HF⟩
      ·
        (try simp only [List.getElem_toArray, List.getElem_cons_zero, List.getElem_cons_succ])
        go_simp
        refine hK9.out _ _ (((K12.out.alloc (.cells #[.slice none 0 0, .int .i64 0, .slice none 0 0] 47)).drew)) (fun hHeld9 => ?_)
        clear hK9 K9
        (try simp only [List.getElem_toArray, List.getElem_cons_zero, List.getElem_cons_succ, Act.put, List.setIfInBounds_toArray, List.set_cons_zero, List.set_cons_succ])
        refine wpAnyH_ready (rs := [2]) (by kernel_rfl) (by simp) ?_
        refine AllReadyH.cons rfl (fun K9 hK9 => ?_) AllReadyH.nil
        (try simp only [List.getElem_toArray, List.getElem_cons_zero, List.getElem_cons_succ])
        go_simp
        refine hK9.out _ _ ((((K12.out.alloc (.cells #[.slice none 0 0, .int .i64 0, .slice none 0 0] 47)).alloc (.cells #[.int .i64 ids.length] 3)).drew)) (fun hHeld9 => ?_)
        clear hK9 K9
        (try simp only [List.getElem_toArray, List.getElem_cons_zero, List.getElem_cons_succ, Act.put, List.setIfInBounds_toArray, List.set_cons_zero, List.set_cons_succ])
        refine wpAnyH_ready (rs := [5]) (by kernel_rfl) (by simp) ?_
        refine AllReadyH.cons rfl (fun K9 hK9 => ?_) AllReadyH.nil
        (try simp only [List.getElem_toArray, List.getElem_cons_zero, List.getElem_cons_succ])
        go_simp
        refine hK9.out _ _ (((((K12.out.alloc (.cells #[.slice none 0 0, .int .i64 0, .slice none 0 0] 47)).alloc (.cells #[.int .i64 ids.length] 3)).alloc (.cells #[.slice (some ⟨w2.heap.size + 1, 0, none⟩) 1 1, .slice (some ⟨w.heap.size, 0, none⟩) 3 3] 24)).drew)) (fun hHeld9 => ?_)
        clear hK9 K9
        (try simp only [List.getElem_toArray, List.getElem_cons_zero, List.getElem_cons_succ, Act.put, List.setIfInBounds_toArray, List.set_cons_zero, List.set_cons_succ])
        refine wpAnyH_ready (rs := [6]) (by kernel_rfl) (by simp) ?_
        refine AllReadyH.cons rfl (fun K9 hK9 => ?_) AllReadyH.nil
        (try simp only [List.getElem_toArray, List.getElem_cons_zero, List.getElem_cons_succ])
        go_simp
        have hk1 := ((Blk.fresh (w2.alloc (.cells #[.slice none 0 0, .int .i64 0, .slice none 0 0] 47)) 3 [.int .i64 ids.length]).alloc (.cells #[.slice (some ⟨w2.heap.size + 1, 0, none⟩) 1 1, .slice (some ⟨w.heap.size, 0, none⟩) 3 3] 24)).drew
        have hk2 := (Blk.fresh ((w2.alloc (.cells #[.slice none 0 0, .int .i64 0, .slice none 0 0] 47)).alloc (.cells #[.int .i64 ids.length] 3)) 24 [.slice (some ⟨w2.heap.size + 1, 0, none⟩) 1 1, .slice (some ⟨w.heap.size, 0, none⟩) 3 3]).drew
        have hk3 := (((Blk.fresh w2 47 [.slice none 0 0, .int .i64 0, .slice none 0 0]).alloc (.cells #[.int .i64 ids.length] 3)).alloc (.cells #[.slice (some ⟨w2.heap.size + 1, 0, none⟩) 1 1, .slice (some ⟨w.heap.size, 0, none⟩) 3 3] 24)).drew
        simp only [World.size_alloc] at hk1 hk2 hk3
        have hkd := (((K12.out.alloc (.cells #[.slice none 0 0, .int .i64 0, .slice none 0 0] 47)).alloc (.cells #[.int .i64 ids.length] 3)).alloc (.cells #[.slice (some ⟨w2.heap.size + 1, 0, none⟩) 1 1, .slice (some ⟨w.heap.size, 0, none⟩) 3 3] 24)).drew
        have hkz := (((K22.out.alloc (.cells #[.slice none 0 0, .int .i64 0, .slice none 0 0] 47)).alloc (.cells #[.int .i64 ids.length] 3)).alloc (.cells #[.slice (some ⟨w2.heap.size + 1, 0, none⟩) 1 1, .slice (some ⟨w.heap.size, 0, none⟩) 3 3] 24)).drew
        have hbx := (((HB2.out.alloc (by  omega) (.cells #[.slice none 0 0, .int .i64 0, .slice none 0 0] 47)).alloc (by rw [World.size_alloc]; omega) (.cells #[.int .i64 ids.length] 3)).alloc (by rw [World.size_alloc, World.size_alloc]; omega) (.cells #[.slice (some ⟨w2.heap.size + 1, 0, none⟩) 1 1, .slice (some ⟨w.heap.size, 0, none⟩) 3 3] 24)).drew
        have hzx : (((w2.alloc (.cells #[.slice none 0 0, .int .i64 0, .slice none 0 0] 47)).alloc (.cells #[.int .i64 ids.length] 3)).alloc (.cells #[.slice (some ⟨w2.heap.size + 1, 0, none⟩) 1 1, .slice (some ⟨w.heap.size, 0, none⟩) 3 3] 24)).drew.heap.size = w2.heap.size + 1 + 1 + 1 := by simp only [heap_drew, World.size_alloc]
        generalize (((w2.alloc (.cells #[.slice none 0 0, .int .i64 0, .slice none 0 0] 47)).alloc (.cells #[.int .i64 ids.length] 3)).alloc (.cells #[.slice (some ⟨w2.heap.size + 1, 0, none⟩) 1 1, .slice (some ⟨w.heap.size, 0, none⟩) 3 3] 24)).drew = wx at hk1 hk2 hk3 hkd hkz hbx hzx ⊢
        have hr1 := hk1.reads (n := 1) rfl (by unfold maxLen; omega)
        have hr2 := first3 hkd
        have hsx := hbx.size
        refine (concat_any [(ids.length : Int)] [d.a, d.b, d.c] _ _ _ wx wx.heap.size (Nat.le_refl _) hr1 hr2 hk2 (by simp) (by simp)).mono ?_
        rintro en w5 ⟨A0, c0, rfl, hown, hb5⟩
        (try simp only [List.cons_append, List.nil_append, List.length_cons, List.length_nil, Nat.zero_add, Nat.reduceAdd] at hown ⊢)
        have HB5 := Lib.hid (hbx.trans (hb5.mono hsx))
        have s5 := HB5.out.size
        have K5 := Lib.hid (hkd.below hb5 hkd.lt)
        have Z5 := Lib.hid (hkz.below hb5 hkz.lt)
        have l5 := K5.out.lt
        have m5 := Z5.out.lt
        have OD := Lib.hid (own_lower hown hsx)
        have T5 := Lib.hid (hk3.below hb5 hk3.lt)
        have ND := Lib.hid (fun k hk => show ¬ (k = w2.heap.size) from fun e => by have h1 := (hown.lt k hk).1; have h2 := hk3.lt; omega)
        clear hk1 hk2 hk3 hkd hkz hbx hr1 hr2 hown hb5
        refine hK9.out _ _ (K5.out) (fun hHeld9 => ?_)
        clear hK9 K9
        (try simp only [List.getElem_toArray, List.getElem_cons_zero, List.getElem_cons_succ, Act.put, List.setIfInBounds_toArray, List.set_cons_zero, List.set_cons_succ])
        refine' wpAnyH_take (i := 9) (v := _) rfl (by kernel_rfl) (by kernel_rfl) (by kernel_rfl) (fun _ _ _ h => h) (Or.inl ⟨by rfl, ?taq10⟩) (by assumption) ?tbq10
        case taq10 =>
          intro wS hSw
          (try dsimp only at hSw)
          go_simp
          (try (with_reducible rfl))
        (try simp only [List.getElem_toArray, List.getElem_cons_zero, List.getElem_cons_succ, Act.put, List.setIfInBounds_toArray, List.set_cons_zero, List.set_cons_succ])
        have q0 := T5.out.cell 0
        have q1 := T5.out.cell 1
        have q2 := T5.out.cell 2
        have f0 := T5.out.free 0
        have f1 := T5.out.free 1
        have f2 := T5.out.free 2
        have lp := T5.out.lt
        simp only [List.getElem?_cons_zero, List.getElem?_cons_succ] at q0 q1 q2
        refine wpAnyH_ready (rs := [11]) (by kernel_rfl) (by simp) ?_
        refine AllReadyH.cons rfl (fun K9 hK9 => ?_) AllReadyH.nil
        (try simp only [List.getElem_toArray, List.getElem_cons_zero, List.getElem_cons_succ])
        go_simp
        have h3 := three_ok T5.out (.slice A0 4 c0) (.int .i64 d.exp) (.slice none 0 0)
        have HF := Lib.hid (ofS_start (HB5.out.trans (h3.1.below s5 (fun i hi => by omega))) (by omega) h3.2 (own_off OD.out h3.1 (fun k hk => ND.out k hk)) (fun k hk => ND.out k hk) (K5.out.off h3.1 (by omega)) (by omega) (Z5.out.off h3.1 (by omega)) (by omega))
        have HKF := Lib.hid (K5.out.off h3.1 (by omega))
        clear q0 q1 q2 f0 f1 f2 h3
        refine hK9.out _ _ (HKF.out) (fun hHeld9 => ?_)
        clear hK9 K9
        (try simp only [List.getElem_toArray, List.getElem_cons_zero, List.getElem_cons_succ, Act.put, List.setIfInBounds_toArray, List.set_cons_zero, List.set_cons_succ])
        refine wpAnyH_done (by kernel_rfl) ?_ _
        go_wp2_with fail
        go_meet
        case rel => exact ⟨_, A0, c0, rfl, HF⟩
    case rest =>
      obtain ⟨p, A0, c0, rfl, HS⟩ := hcut
      clear K12 K22 HB2 s2 l12 l22 t1 t2
      have HPZ : Hid (w.heap.size + 1 ≠ p) := Lib.hid (HS.out.oth _ (.tail _ (.head _))).2.2
      have HZ : Hid (sizeI [(ids.length : Int), d.a, d.b, d.c] = sizeI (ofDims d ids)) := Lib.hid rfl
      obtain ⟨G, hG⟩ : ∃ G, wc.heap.size = G := ⟨_, rfl⟩
      rw [hG] at HS
      clear hG
      have HZG : Hid (w.heap.size + 1 < G) := Lib.hid (HS.out.oth _ (.tail _ (.head _))).2.1
      go_wp2_with fail
      go_loopw [8, 38] (fun l i wr => ∃ (j : Nat) (v : Value) (ys : List Int) (Al : Option Addr) (cl' : Nat) (ls : List Int), j ≤ ids.length ∧ i = .int .i64 j ∧ l = .slice Al ls.length cl' ∧ Hid (OfS w wr G p A0 c0 [(ids.length : Int), d.a, d.b, d.c] d.exp v ys (.slice Al ls.length cl') ls [(w.heap.size, 33, [.int .i64 d.a, .int .i64 d.b, .int .i64 d.c, .int .i64 d.exp, .int .i64 d.cl, .slice A d.xs.length k]), (w.heap.size + 1, 47, [.slice none 0 0, .int .i64 0, .slice none 0 0])]) ∧ Hid (ys = ofData d (ids.take j) ∧ ls = ofLabels d (ids.take j) ∧ idsOk d (ids.take j) = true)) (fun _ i _ => ids.length - (intOf i).toNat)
      case atStart => exact ⟨0, .slice none 0 0, [], none, 0, [], by omega, rfl, rfl, HS, Lib.hid ⟨by simp [ofData], by simp [ofLabels], by simp [idsOk]⟩⟩
      case round =>
        obtain ⟨j, v, ys, Al, cl', ls, hj, rfl, rfl, hs, hz⟩ := hrel
        clear HS
        have HB := Lib.hid hs.out.bel
        have sr := HB.out.size
        have hkd := (hs.out.oth _ (.head _)).1
        have hkz := (hs.out.oth _ (.tail _ (.head _))).1
        have KD := Lib.hid hkd
        have KZ := Lib.hid hkz
        have ld := hkd.lt
        have lz := hkz.lt
        simp only at ld lz KD KZ
        clear hkd hkz
        by_cases hlt : j < ids.length
        · obtain ⟨A9, n9, c9, e9, _, _, _, hat⟩ := HI.out.below (HB.out.mono hB)
          injection e9 with e91 e92 e93
          subst e91 e92 e93
          obtain ⟨gi, oi, rfl, hgi, hxi⟩ := hat.out (by omega)
          have r1 := hxi j (.int .i64 ids[j]) (ints_at _ _ _ hlt)
          have hyw := HBD.out ids[j] (List.getElem_mem hlt)
          obtain ⟨y, hy⟩ : ∃ y, ids[j] = y := ⟨_, rfl⟩
          rw [hy] at r1 hyw
          have HY : Hid (ids[j]? = some y) := Lib.hid (by rw [List.getElem?_eq_getElem hlt, hy])
          have i1 : (0 : Int) ≤ (j : Int) := by omega
          have i2 : (j : Int) < (ids.length : Int) := by omega
          unfold inW at hyw
          obtain ⟨yw1, yw2⟩ := hyw
          clear hat hxi hy
          by_cases hin : idIn d y = true
          case neg =>
            have HO := Lib.hid (ofOk_bad (idsOk_bad HY.out (by simpa using hin)))
            have hin2 : ¬ (0 ≤ y ∧ y < (d.xs.length : Int)) := by
              intro h9
              apply hin
              unfold idIn
              simp [h9.1, h9.2]
            clear hin
            have m5 := KD.out.cell 5
            simp only [List.getElem?_cons_zero, List.getElem?_cons_succ] at m5
            by_cases h0 : y < 0
            · have t1 : decide (y < 0) = true := by simpa using h0
              clear hin2 h0
              have hkr := KZ.out
              have hmr : w.heap.size + 1 < wr.heap.size := hkr.lt
              have z0 := hkr.cell 0
              have z1 := hkr.cell 1
              have z2 := hkr.cell 2
              have f0 := hkr.free 0
              have f1 := hkr.free 1
              have f2 := hkr.free 2
              simp only [List.getElem?_cons_zero, List.getElem?_cons_succ] at z0 z1 z2
              clear hkr
              go_wp2_with fail
              have hq := three_ok KZ.out (.slice none 0 0) (.int .i64 0) (.slice none 0 0)
              clear z0 z1 z2 f0 f1 f2 hmr
              generalize (((wr.setCell ⟨w.heap.size + 1, 0, none⟩ (.slice none 0 0)).setCell ⟨w.heap.size + 1, 1, none⟩ (.int .i64 0)).setCell ⟨w.heap.size + 1, 2, none⟩ (.slice none 0 0)) = WF at hq ⊢
              obtain ⟨hqo, hqb⟩ := hq
              have n0 := hqb.cell 0
              have n1 := hqb.cell 1
              have n2 := hqb.cell 2
              simp only [List.getElem?_cons_zero, List.getElem?_cons_succ] at n0 n1 n2
              refine bodyPost_ret (v := .tuple #[.agg #[.slice none 0 0, .int .i64 0, .slice none 0 0], .slice none 0 0, .int .i64 1]) ?_ rfl ?_
              · simp [results, Try.results23, asAddr, Result.andThen, n0, n1, n2, go_sem]
              · exact ofGot_none (HB.out.trans (hqo.below HB.out.size (fun i hi => by omega))) HO.out
            · have t1 : decide (y < 0) = false := by simpa using h0
              have t2 : decide ((d.xs.length : Int) ≤ y) = true := by simp; omega
              clear hin2 h0
              have hkr := KZ.out
              have hmr : w.heap.size + 1 < wr.heap.size := hkr.lt
              have z0 := hkr.cell 0
              have z1 := hkr.cell 1
              have z2 := hkr.cell 2
              have f0 := hkr.free 0
              have f1 := hkr.free 1
              have f2 := hkr.free 2
              simp only [List.getElem?_cons_zero, List.getElem?_cons_succ] at z0 z1 z2
              clear hkr
              go_wp2_with fail
              have hq := three_ok KZ.out (.slice none 0 0) (.int .i64 0) (.slice none 0 0)
              clear z0 z1 z2 f0 f1 f2 hmr
              generalize (((wr.setCell ⟨w.heap.size + 1, 0, none⟩ (.slice none 0 0)).setCell ⟨w.heap.size + 1, 1, none⟩ (.int .i64 0)).setCell ⟨w.heap.size + 1, 2, none⟩ (.slice none 0 0)) = WF at hq ⊢
              obtain ⟨hqo, hqb⟩ := hq
              have n0 := hqb.cell 0
              have n1 := hqb.cell 1
              have n2 := hqb.cell 2
              simp only [List.getElem?_cons_zero, List.getElem?_cons_succ] at n0 n1 n2
              refine bodyPost_ret (v := .tuple #[.agg #[.slice none 0 0, .int .i64 0, .slice none 0 0], .slice none 0 0, .int .i64 1]) ?_ rfl ?_
              · simp [results, Try.results23, asAddr, Result.andThen, n0, n1, n2, go_sem]
              · exact ofGot_none (HB.out.trans (hqo.below HB.out.size (fun i hi => by omega))) HO.out
          obtain ⟨y0, yl, yx⟩ := idIn_of hin
          obtain ⟨m, rfl⟩ := Int.eq_ofNat_of_zero_le y0
          simp only [Int.toNat_natCast] at yl yx
          have t1 : decide ((m : Int) < 0) = false := by simp
          have t2 : decide ((d.xs.length : Int) ≤ (m : Int)) = false := by simp; omega
          obtain ⟨g, o, c', e, e1, hlk, hok, hg, q0, q1⟩ := (HX.out.below (HB.out.mono hB)).at_ (k := m) yl
          injection e1 with e1 _ e3
          subst e1 e3
          have HE : Hid (d.xs[(m : Int).toNat]? = some e) := Lib.hid (by simpa using hlk)
          have HIN := Lib.hid hin
          obtain ⟨Ad, cd, hdv, _, _⟩ := hok.rd.form
          obtain ⟨dv, data, lab⟩ := e
          simp only at hdv q0 q1
          subst hdv
          rw [length_ints] at q0
          have hok1 := hok.rd
          simp only at hok1
          rw [length_ints] at hok1
          have a1 : g < wr.heap.size := by omega
          have i3 : (m : Int) < (d.xs.length : Int) := by omega
          have hdl := (mayD_lens HR.out).2 _ (List.mem_of_getElem? hlk)
          simp only at hdl
          have hyl : ys.length ≤ 131072 := by
            rw [hz.out.1]
            exact ofData_le HR.out _ hz.out.2.2 (by rw [List.length_take]; omega)
          have hll : ls.length ≤ 64 := by
            rw [hz.out.2.1]
            unfold ofLabels
            rw [List.length_map, List.length_take]
            omega
          have HRD : Hid (Reads (wr.alloc (.cells #[.slice Ad data.length cd, .int .i64 lab] 45)) B (.slice Ad data.length cd) (ints .i8 data)) := Lib.hid (hok1.alloc (by omega) _)
          have HS1 := Lib.hid (hs.out.below (one_alloc wr (.cells #[.slice Ad data.length cd, .int .i64 lab] 45)))
          have KX := Lib.hid (Blk.fresh wr 45 [.slice Ad data.length cd, .int .i64 lab])
          obtain ⟨Av, cv, hv⟩ := own_form hs.out.own
          subst hv
          have HQ1 : Hid ((Value.slice Av ys.length cv).ownBlock ≠ some wr.heap.size) := Lib.hid (fun e => by have := (hs.out.own.lt _ e).2; omega)
          have HQ2 : Hid ((Value.slice Al ls.length cl').ownBlock ≠ some wr.heap.size) := Lib.hid (fun e => by have := (hs.out.lab.lt _ e).2; omega)
          have hqp : wr.heap.size ≠ p := by have := hs.out.lo; omega
          have m5 := KD.out.cell 5
          simp only [List.getElem?_cons_zero, List.getElem?_cons_succ] at m5
          clear hok hlk hok1 hs hin y0 yl yx KZ
          go_upto_region 11 with fail
          generalize (wr.alloc (.cells #[.slice Ad data.length cd, .int .i64 lab] 45)) = wa at HRD HS1 KX ⊢
          generalize wr.heap.size = q at KX HQ1 HQ2 hqp ⊢
          clear m5 q0 q1 r1 t1 t2 KD
          have hsz := HS1.out.lo
          have hBG : B ≤ wa.heap.size := by have := HS1.out.bel.size; omega
          refine wp_region_held_drew (S := ((fun w' => Blk w' q 45 [.slice Ad data.length cd, .int .i64 lab]))) (by kernel_rfl) (KX.out.drew) (fun hHeld => ?_)
          refine' wpAnyH_take (i := 0) (v := _) rfl (by kernel_rfl) (by kernel_rfl) (by kernel_rfl) (fun _ _ _ h => h) (Or.inl ⟨by rfl, ?taq11⟩) (by assumption) ?tbq11
          case taq11 =>
            intro wS hSw
            (try dsimp only at hSw)
            (have n0 := hSw.cell 0; have n1 := hSw.cell 1; simp only [List.getElem?_cons_zero, List.getElem?_cons_succ] at n0 n1; clear hSw; go_simp)
            (try (with_reducible rfl))
          (try simp only [List.getElem_toArray, List.getElem_cons_zero, List.getElem_cons_succ, Act.put, List.setIfInBounds_toArray, List.set_cons_zero, List.set_cons_succ])
          refine' wpAnyH_take (i := 2) (v := _) rfl (by kernel_rfl) (by kernel_rfl) (by kernel_rfl) (fun _ _ _ h => h) (Or.inl ⟨by rfl, ?taq12⟩) (by assumption) ?tbq12
          case taq12 =>
            intro wS hSw
            (try dsimp only at hSw)
            (have n0 := hSw.cell 0; have n1 := hSw.cell 1; simp only [List.getElem?_cons_zero, List.getElem?_cons_succ] at n0 n1; clear hSw; go_simp)
            (try (with_reducible rfl))
          (try simp only [List.getElem_toArray, List.getElem_cons_zero, List.getElem_cons_succ, Act.put, List.setIfInBounds_toArray, List.set_cons_zero, List.set_cons_succ])
          refine' wpAnyH_take (i := 3) (v := _) rfl (by kernel_rfl) (by kernel_rfl) (by kernel_rfl) (fun _ _ _ h => h) (Or.inl ⟨by rfl, ?taq13⟩) (by assumption) ?tbq13
          case taq13 =>
            intro wS hSw
            (try dsimp only at hSw)
            (have n0 := hSw.cell 0; have n1 := hSw.cell 1; simp only [List.getElem?_cons_zero, List.getElem?_cons_succ] at n0 n1; clear hSw; go_simp)
            (try (with_reducible rfl))
          (try simp only [List.getElem_toArray, List.getElem_cons_zero, List.getElem_cons_succ, Act.put, List.setIfInBounds_toArray, List.set_cons_zero, List.set_cons_succ])
          refine' wpAnyH_take (i := 5) (v := _) rfl (by kernel_rfl) (by kernel_rfl) (by kernel_rfl) (fun _ _ _ h => h) (Or.inl ⟨by rfl, ?taq14⟩) (by assumption) ?tbq14
          case taq14 =>
            intro wS hSw
            (try dsimp only at hSw)
            (have n0 := hSw.cell 0; have n1 := hSw.cell 1; simp only [List.getElem?_cons_zero, List.getElem?_cons_succ] at n0 n1; clear hSw; go_simp)
            (try (with_reducible rfl))
          (try simp only [List.getElem_toArray, List.getElem_cons_zero, List.getElem_cons_succ, Act.put, List.setIfInBounds_toArray, List.set_cons_zero, List.set_cons_succ])
          refine' wpAnyH_take (i := 6) (v := _) rfl (by kernel_rfl) (by kernel_rfl) (by kernel_rfl) (fun _ _ _ h => h) (Or.inl ⟨by rfl, ?taq15⟩) (by assumption) ?tbq15
          case taq15 =>
            intro wS hSw
            (try dsimp only at hSw)
            (have n0 := hSw.cell 0; have n1 := hSw.cell 1; simp only [List.getElem?_cons_zero, List.getElem?_cons_succ] at n0 n1; clear hSw; go_simp)
            (try (with_reducible rfl))
          (try simp only [List.getElem_toArray, List.getElem_cons_zero, List.getElem_cons_succ, Act.put, List.setIfInBounds_toArray, List.set_cons_zero, List.set_cons_succ])
          refine' wpAnyH_take (i := 7) (v := _) rfl (by kernel_rfl) (by kernel_rfl) (by kernel_rfl) (fun _ _ _ h => h) (Or.inl ⟨by rfl, ?taq16⟩) (by assumption) ?tbq16
          case taq16 =>
            intro wS hSw
            (try dsimp only at hSw)
            (have n0 := hSw.cell 0; have n1 := hSw.cell 1; simp only [List.getElem?_cons_zero, List.getElem?_cons_succ] at n0 n1; clear hSw; go_simp)
            (try (with_reducible rfl))
          (try simp only [List.getElem_toArray, List.getElem_cons_zero, List.getElem_cons_succ, Act.put, List.setIfInBounds_toArray, List.set_cons_zero, List.set_cons_succ])
          refine wpAnyH_ready (rs := [1, 8]) (by kernel_rfl) (by simp) ?_
          refine AllReadyH.cons rfl (fun K9 hK9 => ?_) (AllReadyH.cons rfl (fun K9 hK9 => ?_) AllReadyH.nil)
          ·
            have f2 := HS1.out.blk.drew.free 2
            have m2 := HS1.out.blk.drew.cell 2
            have lp := HS1.out.blk.drew.lt
            simp only [List.getElem?_cons_zero, List.getElem?_cons_succ] at m2
            (try simp only [List.getElem_toArray, List.getElem_cons_zero, List.getElem_cons_succ])
            go_simp
            refine hK9.out _ _ (KX.out.drew) (fun hHeld9 => ?_)
            clear hK9 K9
            (try simp only [List.getElem_toArray, List.getElem_cons_zero, List.getElem_cons_succ, Act.put, List.setIfInBounds_toArray, List.set_cons_zero, List.set_cons_succ])
            clear f2 m2 lp
            refine wpAnyH_ready (rs := [4, 8]) (by kernel_rfl) (by simp) ?_
            refine AllReadyH.cons rfl (fun K9 hK9 => ?_) (AllReadyH.cons rfl (fun K9 hK9 => ?_) AllReadyH.nil)
            ·
              (try simp only [List.getElem_toArray, List.getElem_cons_zero, List.getElem_cons_succ])
              rw [if_pos (by rfl)]
              refine wp_extend elem_i8d wa.drew _ _ (by rfl) G ys.length _ _ (by rfl) HS1.out.own.drew _ _ (ints .i8 data) (by rfl) HRD.out.drew (ints_one _ _) (by rw [length_ints]; unfold maxLen; omega) (by rw [length_ints]; omega) (by rw [heap_drew]; omega) ?_
              intro A5 c5 w5 hown5 hg5 hf5
              rw [ints_append] at hown5
              simp only [length_ints] at hown5 hf5 ⊢
              have kp5 := HS1.out.blk.drew.grown hg5 (by intro he; have := (HS1.out.own.lt _ he.symm).1; omega)
              have kq5 := KX.out.drew.grown hg5 (by intro he; exact HQ1.out (he.symm))
              refine hK9.out _ _ (kq5) (fun hHeld9 => ?_)
              clear hK9 K9
              (try simp only [List.getElem_toArray, List.getElem_cons_zero, List.getElem_cons_succ, Act.put, List.setIfInBounds_toArray, List.set_cons_zero, List.set_cons_succ])
              refine' wpAnyH_take (i := 10) (v := _) rfl (by kernel_rfl) (by kernel_rfl) (by kernel_rfl) (fun _ _ _ h => h) (Or.inl ⟨by rfl, ?taq17⟩) (by assumption) ?tbq17
              case taq17 =>
                intro wS hSw
                (try dsimp only at hSw)
                go_simp
                (try (with_reducible rfl))
              (try simp only [List.getElem_toArray, List.getElem_cons_zero, List.getElem_cons_succ, Act.put, List.setIfInBounds_toArray, List.set_cons_zero, List.set_cons_succ])
              refine wpAnyH_ready (rs := [8]) (by kernel_rfl) (by simp) ?_
              refine AllReadyH.cons rfl (fun K9 hK9 => ?_) AllReadyH.nil
              (try simp only [List.getElem_toArray, List.getElem_cons_zero, List.getElem_cons_succ])
              go_simp
              have hA : Off (fun _ => False) wa wa.drew := (Off.refl _ wa).drew
              have hB : Off (fun _ => False) w5 (w5.alloc (.cells #[.int .i64 lab] 3)) := (Off.refl _ w5).alloc _
              have hlb := (HS1.out.lab1 hA hg5 hB).1
              have hlu : B ≤ w5.heap.size := by have := hg5.size; rw [heap_drew] at this; omega
              have kp6 := kp5.alloc (.cells #[.int .i64 lab] 3)
              have kq6 := kq5.alloc (.cells #[.int .i64 lab] 3)
              have hGs : G ≤ (w5.alloc (.cells #[.int .i64 lab] 3)).heap.size := by have := hg5.size; rw [heap_drew] at this; rw [World.size_alloc]; omega
              refine hK9.out _ _ (kq6) (fun hHeld9 => ?_)
              clear hK9 K9
              (try simp only [List.getElem_toArray, List.getElem_cons_zero, List.getElem_cons_succ, Act.put, List.setIfInBounds_toArray, List.set_cons_zero, List.set_cons_succ])
              refine wpAnyH_ready (rs := [9]) (by kernel_rfl) (by simp) ?_
              refine AllReadyH.cons rfl (fun K9 hK9 => ?_) AllReadyH.nil
              (try simp only [List.getElem_toArray, List.getElem_cons_zero, List.getElem_cons_succ])
              rw [if_pos (by rfl)]
              refine wp_extend elem_int (w5.alloc (.cells #[.int .i64 lab] 3)) _ _ (by rfl) G ls.length _ _ (by rfl) hlb _ _ [.int .i64 lab] (by rfl) (Reads.one_ w5 _ _) (by simp [Value.oneCell']) (by simp only [List.length_cons, List.length_nil, maxLen]; omega) (by simp only [List.length_cons, List.length_nil]; omega) hGs ?_
              intro A6 c6 w6 hown6 hg6 hf6
              have e6 : ints .i64 ls ++ [.int .i64 lab] = ints .i64 (ls ++ [lab]) := by rw [← ints_append]; rfl
              rw [e6] at hown6
              simp only [List.length_cons, List.length_nil, Nat.zero_add] at hown6 hf6 ⊢
              have kp7 := kp6.grown hg6 (by intro he; have := (HS1.out.lab.lt _ he.symm).1; omega)
              have kq7 := kq6.grown hg6 (by intro he; exact HQ2.out (he.symm))
              have HF := Lib.hid (HS1.out.two (v' := .slice A5 (ys.length + data.length) c5) (xs' := ys ++ data) (lv' := .slice A6 (ls ++ [lab]).length c6) (ls' := ls ++ [lab]) hA hg5 hf5 (by rw [List.length_append]; exact hown5) hB hg6 (by rw [List.length_append]; exact hf6) (by rw [List.length_append]; exact hown6))
              have f2 := kp7.free 2
              have m2 := kp7.cell 2
              have lp := kp7.lt
              simp only [List.getElem?_cons_zero, List.getElem?_cons_succ] at m2
              refine hK9.out _ _ (kq7) (fun hHeld9 => ?_)
              clear hK9 K9
              (try simp only [List.getElem_toArray, List.getElem_cons_zero, List.getElem_cons_succ, Act.put, List.setIfInBounds_toArray, List.set_cons_zero, List.set_cons_succ])
              refine wpAnyH_ready (rs := [11]) (by kernel_rfl) (by simp) ?_
              refine AllReadyH.cons rfl (fun K9 hK9 => ?_) AllReadyH.nil
              (try simp only [List.getElem_toArray, List.getElem_cons_zero, List.getElem_cons_succ])
              go_simp
              have kpF := kp7.put 2 (.slice A5 (ys.length + data.length) c5)
              have kqF := kq7.off ((Off.refl (fun i => i = p) w6).setCell (p := ⟨p, 2, none⟩) (.inl rfl) (.slice A5 (ys.length + data.length) c5)) hqp
              clear hown5 hg5 hf5 hown6 hg6 hf6 hA hB hlb f2 m2 lp kp7 kp6 kp5 kq7 kq6 kq5 kpF
              refine hK9.out _ _ (kqF) (fun hHeld9 => ?_)
              clear hK9 K9
              (try simp only [List.getElem_toArray, List.getElem_cons_zero, List.getElem_cons_succ, Act.put, List.setIfInBounds_toArray, List.set_cons_zero, List.set_cons_succ])
              refine' wpAnyH_take (i := 12) (v := _) rfl (by kernel_rfl) (by kernel_rfl) (by kernel_rfl) (fun _ _ _ h => h) (Or.inl ⟨by rfl, ?taq18⟩) (by assumption) ?tbq18
              case taq18 =>
                intro wS hSw
                (try dsimp only at hSw)
                go_simp
                (try (with_reducible rfl))
              (try simp only [List.getElem_toArray, List.getElem_cons_zero, List.getElem_cons_succ, Act.put, List.setIfInBounds_toArray, List.set_cons_zero, List.set_cons_succ])
              refine wpAnyH_done (by kernel_rfl) ?_ _
              go_wp2_with fail
              go_roundw
              case rel => exact ⟨j + 1, .slice A5 (ys.length + data.length) c5, ys ++ data, A6, c6, ls ++ [lab], by omega, by go_num, by rw [List.length_append]; rfl, HF, Lib.hid ⟨by rw [ofData_next HY.out HE.out, hz.out.1], by rw [ofLabels_next HY.out HE.out, hz.out.2.1], by rw [idsOk_next HY.out, hz.out.2.2, HIN.out]; rfl⟩⟩
              case measure => simp [intOf]; omega
            ·
              (try simp only [List.getElem_toArray, List.getElem_cons_zero, List.getElem_cons_succ])
              go_simp
              have hA : Off (fun _ => False) wa (wa.alloc (.cells #[.int .i64 lab] 3)).drew := ((Off.refl _ wa).alloc _).drew
              refine hK9.out _ _ ((KX.out.alloc (.cells #[.int .i64 lab] 3)).drew) (fun hHeld9 => ?_)
              clear hK9 K9
              (try simp only [List.getElem_toArray, List.getElem_cons_zero, List.getElem_cons_succ, Act.put, List.setIfInBounds_toArray, List.set_cons_zero, List.set_cons_succ])
              refine wpAnyH_ready (rs := [4]) (by kernel_rfl) (by simp) ?_
              refine AllReadyH.cons rfl (fun K9 hK9 => ?_) AllReadyH.nil
              (try simp only [List.getElem_toArray, List.getElem_cons_zero, List.getElem_cons_succ])
              rw [if_pos (by rfl)]
              refine wp_extend elem_i8d (wa.alloc (.cells #[.int .i64 lab] 3)).drew _ _ (by rfl) G ys.length _ _ (by rfl) (HS1.out.own.alloc (.cells #[.int .i64 lab] 3)).drew _ _ (ints .i8 data) (by rfl) (HRD.out.alloc hBG (.cells #[.int .i64 lab] 3)).drew (ints_one _ _) (by rw [length_ints]; unfold maxLen; omega) (by rw [length_ints]; omega) (by rw [heap_drew, World.size_alloc]; omega) ?_
              intro A5 c5 w5 hown5 hg5 hf5
              rw [ints_append] at hown5
              simp only [length_ints] at hown5 hf5 ⊢
              have kp5 := (HS1.out.blk.alloc (.cells #[.int .i64 lab] 3)).drew.grown hg5 (by intro he; have := (HS1.out.own.lt _ he.symm).1; omega)
              have kq5 := (KX.out.alloc (.cells #[.int .i64 lab] 3)).drew.grown hg5 (by intro he; exact HQ1.out (he.symm))
              have hB : Off (fun _ => False) w5 w5 := Off.refl _ w5
              have hlb := (HS1.out.lab1 hA hg5 hB).1
              have hkl := (Blk.fresh wa 3 [.int .i64 lab]).drew.grown hg5 (by intro he; have := (HS1.out.own.lt _ he.symm).2; omega)
              have hGs : G ≤ w5.heap.size := by have := hg5.size; rw [heap_drew, World.size_alloc] at this; omega
              refine hK9.out _ _ (kq5) (fun hHeld9 => ?_)
              clear hK9 K9
              (try simp only [List.getElem_toArray, List.getElem_cons_zero, List.getElem_cons_succ, Act.put, List.setIfInBounds_toArray, List.set_cons_zero, List.set_cons_succ])
              refine' wpAnyH_take (i := 10) (v := _) rfl (by kernel_rfl) (by kernel_rfl) (by kernel_rfl) (fun _ _ _ h => h) (Or.inl ⟨by rfl, ?taq19⟩) (by assumption) ?tbq19
              case taq19 =>
                intro wS hSw
                (try dsimp only at hSw)
                go_simp
                (try (with_reducible rfl))
              (try simp only [List.getElem_toArray, List.getElem_cons_zero, List.getElem_cons_succ, Act.put, List.setIfInBounds_toArray, List.set_cons_zero, List.set_cons_succ])
              have kp6 := kp5
              have kq6 := kq5
              refine wpAnyH_ready (rs := [9]) (by kernel_rfl) (by simp) ?_
              refine AllReadyH.cons rfl (fun K9 hK9 => ?_) AllReadyH.nil
              (try simp only [List.getElem_toArray, List.getElem_cons_zero, List.getElem_cons_succ])
              rw [if_pos (by rfl)]
              refine wp_extend elem_int w5 _ _ (by rfl) G ls.length _ _ (by rfl) hlb _ _ [.int .i64 lab] (by rfl) (hkl.reads rfl (by simp only [List.length_cons, List.length_nil]; unfold maxLen; omega)) (by simp [Value.oneCell']) (by simp only [List.length_cons, List.length_nil, maxLen]; omega) (by simp only [List.length_cons, List.length_nil]; omega) hGs ?_
              intro A6 c6 w6 hown6 hg6 hf6
              have e6 : ints .i64 ls ++ [.int .i64 lab] = ints .i64 (ls ++ [lab]) := by rw [← ints_append]; rfl
              rw [e6] at hown6
              simp only [List.length_cons, List.length_nil, Nat.zero_add] at hown6 hf6 ⊢
              have kp7 := kp6.grown hg6 (by intro he; have := (HS1.out.lab.lt _ he.symm).1; omega)
              have kq7 := kq6.grown hg6 (by intro he; exact HQ2.out (he.symm))
              have HF := Lib.hid (HS1.out.two (v' := .slice A5 (ys.length + data.length) c5) (xs' := ys ++ data) (lv' := .slice A6 (ls ++ [lab]).length c6) (ls' := ls ++ [lab]) hA hg5 hf5 (by rw [List.length_append]; exact hown5) hB hg6 (by rw [List.length_append]; exact hf6) (by rw [List.length_append]; exact hown6))
              have f2 := kp7.free 2
              have m2 := kp7.cell 2
              have lp := kp7.lt
              simp only [List.getElem?_cons_zero, List.getElem?_cons_succ] at m2
              refine hK9.out _ _ (kq7) (fun hHeld9 => ?_)
              clear hK9 K9
              (try simp only [List.getElem_toArray, List.getElem_cons_zero, List.getElem_cons_succ, Act.put, List.setIfInBounds_toArray, List.set_cons_zero, List.set_cons_succ])
              refine wpAnyH_ready (rs := [11]) (by kernel_rfl) (by simp) ?_
              refine AllReadyH.cons rfl (fun K9 hK9 => ?_) AllReadyH.nil
              (try simp only [List.getElem_toArray, List.getElem_cons_zero, List.getElem_cons_succ])
              go_simp
              have kpF := kp7.put 2 (.slice A5 (ys.length + data.length) c5)
              have kqF := kq7.off ((Off.refl (fun i => i = p) w6).setCell (p := ⟨p, 2, none⟩) (.inl rfl) (.slice A5 (ys.length + data.length) c5)) hqp
              clear hown5 hg5 hf5 hown6 hg6 hf6 hA hB hlb f2 m2 lp kp7 kp6 kp5 kq7 kq6 kq5 kpF
              refine hK9.out _ _ (kqF) (fun hHeld9 => ?_)
              clear hK9 K9
              (try simp only [List.getElem_toArray, List.getElem_cons_zero, List.getElem_cons_succ, Act.put, List.setIfInBounds_toArray, List.set_cons_zero, List.set_cons_succ])
              refine' wpAnyH_take (i := 12) (v := _) rfl (by kernel_rfl) (by kernel_rfl) (by kernel_rfl) (fun _ _ _ h => h) (Or.inl ⟨by rfl, ?taq20⟩) (by assumption) ?tbq20
              case taq20 =>
                intro wS hSw
                (try dsimp only at hSw)
                go_simp
                (try (with_reducible rfl))
              (try simp only [List.getElem_toArray, List.getElem_cons_zero, List.getElem_cons_succ, Act.put, List.setIfInBounds_toArray, List.set_cons_zero, List.set_cons_succ])
              refine wpAnyH_done (by kernel_rfl) ?_ _
              go_wp2_with fail
              go_roundw
              case rel => exact ⟨j + 1, .slice A5 (ys.length + data.length) c5, ys ++ data, A6, c6, ls ++ [lab], by omega, by go_num, by rw [List.length_append]; rfl, HF, Lib.hid ⟨by rw [ofData_next HY.out HE.out, hz.out.1], by rw [ofLabels_next HY.out HE.out, hz.out.2.1], by rw [idsOk_next HY.out, hz.out.2.2, HIN.out]; rfl⟩⟩
              case measure => simp [intOf]; omega
          ·
            (try simp only [List.getElem_toArray, List.getElem_cons_zero, List.getElem_cons_succ])
            go_simp
            have hA : Off (fun _ => False) wa (wa.alloc (.cells #[.int .i64 lab] 3)).drew := ((Off.refl _ wa).alloc _).drew
            refine hK9.out _ _ ((KX.out.alloc (.cells #[.int .i64 lab] 3)).drew) (fun hHeld9 => ?_)
            clear hK9 K9
            (try simp only [List.getElem_toArray, List.getElem_cons_zero, List.getElem_cons_succ, Act.put, List.setIfInBounds_toArray, List.set_cons_zero, List.set_cons_succ])
            refine wpAnyH_ready (rs := [1]) (by kernel_rfl) (by simp) ?_
            refine AllReadyH.cons rfl (fun K9 hK9 => ?_) AllReadyH.nil
            have f2 := (HS1.out.blk.alloc (.cells #[.int .i64 lab] 3)).drew.free 2
            have m2 := (HS1.out.blk.alloc (.cells #[.int .i64 lab] 3)).drew.cell 2
            have lp := (HS1.out.blk.alloc (.cells #[.int .i64 lab] 3)).drew.lt
            simp only [List.getElem?_cons_zero, List.getElem?_cons_succ] at m2
            (try simp only [List.getElem_toArray, List.getElem_cons_zero, List.getElem_cons_succ])
            go_simp
            refine hK9.out _ _ ((KX.out.alloc (.cells #[.int .i64 lab] 3)).drew) (fun hHeld9 => ?_)
            clear hK9 K9
            (try simp only [List.getElem_toArray, List.getElem_cons_zero, List.getElem_cons_succ, Act.put, List.setIfInBounds_toArray, List.set_cons_zero, List.set_cons_succ])
            clear f2 m2 lp
            refine wpAnyH_ready (rs := [4]) (by kernel_rfl) (by simp) ?_
            refine AllReadyH.cons rfl (fun K9 hK9 => ?_) AllReadyH.nil
            (try simp only [List.getElem_toArray, List.getElem_cons_zero, List.getElem_cons_succ])
            rw [if_pos (by rfl)]
            refine wp_extend elem_i8d (wa.alloc (.cells #[.int .i64 lab] 3)).drew _ _ (by rfl) G ys.length _ _ (by rfl) (HS1.out.own.alloc (.cells #[.int .i64 lab] 3)).drew _ _ (ints .i8 data) (by rfl) (HRD.out.alloc hBG (.cells #[.int .i64 lab] 3)).drew (ints_one _ _) (by rw [length_ints]; unfold maxLen; omega) (by rw [length_ints]; omega) (by rw [heap_drew, World.size_alloc]; omega) ?_
            intro A5 c5 w5 hown5 hg5 hf5
            rw [ints_append] at hown5
            simp only [length_ints] at hown5 hf5 ⊢
            have kp5 := (HS1.out.blk.alloc (.cells #[.int .i64 lab] 3)).drew.grown hg5 (by intro he; have := (HS1.out.own.lt _ he.symm).1; omega)
            have kq5 := (KX.out.alloc (.cells #[.int .i64 lab] 3)).drew.grown hg5 (by intro he; exact HQ1.out (he.symm))
            have hB : Off (fun _ => False) w5 w5 := Off.refl _ w5
            have hlb := (HS1.out.lab1 hA hg5 hB).1
            have hkl := (Blk.fresh wa 3 [.int .i64 lab]).drew.grown hg5 (by intro he; have := (HS1.out.own.lt _ he.symm).2; omega)
            have hGs : G ≤ w5.heap.size := by have := hg5.size; rw [heap_drew, World.size_alloc] at this; omega
            refine hK9.out _ _ (kq5) (fun hHeld9 => ?_)
            clear hK9 K9
            (try simp only [List.getElem_toArray, List.getElem_cons_zero, List.getElem_cons_succ, Act.put, List.setIfInBounds_toArray, List.set_cons_zero, List.set_cons_succ])
            refine' wpAnyH_take (i := 10) (v := _) rfl (by kernel_rfl) (by kernel_rfl) (by kernel_rfl) (fun _ _ _ h => h) (Or.inl ⟨by rfl, ?taq21⟩) (by assumption) ?tbq21
            case taq21 =>
              intro wS hSw
              (try dsimp only at hSw)
              go_simp
              (try (with_reducible rfl))
            (try simp only [List.getElem_toArray, List.getElem_cons_zero, List.getElem_cons_succ, Act.put, List.setIfInBounds_toArray, List.set_cons_zero, List.set_cons_succ])
            have kp6 := kp5
            have kq6 := kq5
            refine wpAnyH_ready (rs := [9]) (by kernel_rfl) (by simp) ?_
            refine AllReadyH.cons rfl (fun K9 hK9 => ?_) AllReadyH.nil
            (try simp only [List.getElem_toArray, List.getElem_cons_zero, List.getElem_cons_succ])
            rw [if_pos (by rfl)]
            refine wp_extend elem_int w5 _ _ (by rfl) G ls.length _ _ (by rfl) hlb _ _ [.int .i64 lab] (by rfl) (hkl.reads rfl (by simp only [List.length_cons, List.length_nil]; unfold maxLen; omega)) (by simp [Value.oneCell']) (by simp only [List.length_cons, List.length_nil, maxLen]; omega) (by simp only [List.length_cons, List.length_nil]; omega) hGs ?_
            intro A6 c6 w6 hown6 hg6 hf6
            have e6 : ints .i64 ls ++ [.int .i64 lab] = ints .i64 (ls ++ [lab]) := by rw [← ints_append]; rfl
            rw [e6] at hown6
            simp only [List.length_cons, List.length_nil, Nat.zero_add] at hown6 hf6 ⊢
            have kp7 := kp6.grown hg6 (by intro he; have := (HS1.out.lab.lt _ he.symm).1; omega)
            have kq7 := kq6.grown hg6 (by intro he; exact HQ2.out (he.symm))
            have HF := Lib.hid (HS1.out.two (v' := .slice A5 (ys.length + data.length) c5) (xs' := ys ++ data) (lv' := .slice A6 (ls ++ [lab]).length c6) (ls' := ls ++ [lab]) hA hg5 hf5 (by rw [List.length_append]; exact hown5) hB hg6 (by rw [List.length_append]; exact hf6) (by rw [List.length_append]; exact hown6))
            have f2 := kp7.free 2
            have m2 := kp7.cell 2
            have lp := kp7.lt
            simp only [List.getElem?_cons_zero, List.getElem?_cons_succ] at m2
            refine hK9.out _ _ (kq7) (fun hHeld9 => ?_)
            clear hK9 K9
            (try simp only [List.getElem_toArray, List.getElem_cons_zero, List.getElem_cons_succ, Act.put, List.setIfInBounds_toArray, List.set_cons_zero, List.set_cons_succ])
            refine wpAnyH_ready (rs := [11]) (by kernel_rfl) (by simp) ?_
            refine AllReadyH.cons rfl (fun K9 hK9 => ?_) AllReadyH.nil
            (try simp only [List.getElem_toArray, List.getElem_cons_zero, List.getElem_cons_succ])
            go_simp
            have kpF := kp7.put 2 (.slice A5 (ys.length + data.length) c5)
            have kqF := kq7.off ((Off.refl (fun i => i = p) w6).setCell (p := ⟨p, 2, none⟩) (.inl rfl) (.slice A5 (ys.length + data.length) c5)) hqp
            clear hown5 hg5 hf5 hown6 hg6 hf6 hA hB hlb f2 m2 lp kp7 kp6 kp5 kq7 kq6 kq5 kpF
            refine hK9.out _ _ (kqF) (fun hHeld9 => ?_)
            clear hK9 K9
            (try simp only [List.getElem_toArray, List.getElem_cons_zero, List.getElem_cons_succ, Act.put, List.setIfInBounds_toArray, List.set_cons_zero, List.set_cons_succ])
            refine' wpAnyH_take (i := 12) (v := _) rfl (by kernel_rfl) (by kernel_rfl) (by kernel_rfl) (fun _ _ _ h => h) (Or.inl ⟨by rfl, ?taq22⟩) (by assumption) ?tbq22
            case taq22 =>
              intro wS hSw
              (try dsimp only at hSw)
              go_simp
              (try (with_reducible rfl))
            (try simp only [List.getElem_toArray, List.getElem_cons_zero, List.getElem_cons_succ, Act.put, List.setIfInBounds_toArray, List.set_cons_zero, List.set_cons_succ])
            refine wpAnyH_done (by kernel_rfl) ?_ _
            go_wp2_with fail
            go_roundw
            case rel => exact ⟨j + 1, .slice A5 (ys.length + data.length) c5, ys ++ data, A6, c6, ls ++ [lab], by omega, by go_num, by rw [List.length_append]; rfl, HF, Lib.hid ⟨by rw [ofData_next HY.out HE.out, hz.out.1], by rw [ofLabels_next HY.out HE.out, hz.out.2.1], by rw [idsOk_next HY.out, hz.out.2.2, HIN.out]; rfl⟩⟩
            case measure => simp [intOf]; omega
        · obtain rfl : j = ids.length := by omega
          rw [List.take_length] at hz
          clear HI HBD HX
          have t1 : decide ((ids.length : Int) < (ids.length : Int)) = false := by simp
          have HLO := Lib.hid hs.out.lo
          have HLB := Lib.hid hs.out.lab
          obtain ⟨Av, cv, hv⟩ := own_form hs.out.own
          subst hv
          have hist := istOf hs.out (HR.out) ids (by rw [hz.out.1]; exact ofData_in HBY.out ids hz.out.2.2) (by omega)
          have HMT := Lib.hid (tmay_any [(ids.length : Int), d.a, d.b, d.c] d.exp ys (.slice A0 4 c0) (.slice Av ys.length cv) wr wr.heap.size (Nat.le_refl _) hist)
          have KP := Lib.hid hs.out.blk
          have HOW := Lib.hid hs.out.own
          have HI3 := Lib.hid hist
          have p0 := KP.out.cell 0
          have p1 := KP.out.cell 1
          have p2 := KP.out.cell 2
          simp only [List.getElem?_cons_zero, List.getElem?_cons_succ] at p0 p1 p2
          clear hs hist
          go_wp2_with fail
          clear p0 p1 p2
          refine HMT.out.mono ?_
          rintro en w7 ⟨rfl, hb7⟩
          clear HMT
          have HB7 := Lib.hid (HB.out.trans (hb7.mono sr))
          have KZ7 := Lib.hid (KZ.out.below hb7 lz)
          have KP7 := Lib.hid (KP.out.below hb7 (by have := HLO.out; omega))
          have HL7 := Lib.hid (own_bel4 HLB.out hb7)
          have HO7 := Lib.hid (own_bel4 HOW.out hb7)
          have HI7 := Lib.hid (HI3.out.d.below hb7)
          have s7 := hb7.size
          clear hb7 HB KZ KP KD ld lz HI3 HLB HOW
          have hmy := ofMay HR.out ids hz.out.2.2
          have hok := ofOk_all HR.out hl1 hl2 hz.out.2.2
          rw [← hz.out.1, show ofDims d ids = [(ids.length : Int), d.a, d.b, d.c] from rfl] at hmy
          rw [show ofDims d ids = [(ids.length : Int), d.a, d.b, d.c] from rfl] at hok
          rw [hmy]
          clear hmy
          by_cases hp : 0 < sizeI [(ids.length : Int), d.a, d.b, d.c]
          case neg =>
            rw [decide_eq_false hp] at hok ⊢
            have HO := Lib.hid hok
            clear hok hp
            have hkr := KZ7.out
            have hmr : w.heap.size + 1 < w7.heap.size := hkr.lt
            have z0 := hkr.cell 0
            have z1 := hkr.cell 1
            have z2 := hkr.cell 2
            have f0 := hkr.free 0
            have f1 := hkr.free 1
            have f2 := hkr.free 2
            simp only [List.getElem?_cons_zero, List.getElem?_cons_succ] at z0 z1 z2
            clear hkr
            go_wp2_with fail
            have hq := three_ok KZ7.out (.slice none 0 0) (.int .i64 0) (.slice none 0 0)
            clear z0 z1 z2 f0 f1 f2 hmr
            generalize (((w7.setCell ⟨w.heap.size + 1, 0, none⟩ (.slice none 0 0)).setCell ⟨w.heap.size + 1, 1, none⟩ (.int .i64 0)).setCell ⟨w.heap.size + 1, 2, none⟩ (.slice none 0 0)) = WF at hq ⊢
            obtain ⟨hqo, hqb⟩ := hq
            have n0 := hqb.cell 0
            have n1 := hqb.cell 1
            have n2 := hqb.cell 2
            simp only [List.getElem?_cons_zero, List.getElem?_cons_succ] at n0 n1 n2
            refine bodyPost_ret (v := .tuple #[.agg #[.slice none 0 0, .int .i64 0, .slice none 0 0], .slice none 0 0, .int .i64 1]) ?_ rfl ?_
            · simp [results, Try.results23, asAddr, Result.andThen, n0, n1, n2, go_sem]
            · exact ofGot_none (HB7.out.trans (hqo.below HB7.out.size (fun i hi => by omega))) HO.out
          rw [decide_eq_true hp] at hok ⊢
          have HO := Lib.hid hok
          have lp7 := KP7.out.lt
          have lz7 := KZ7.out.lt
          have hpz : p ≠ w.heap.size + 1 := by have := HPZ.out; omega
          have p0 := KP7.out.cell 0
          have p1 := KP7.out.cell 1
          have p2 := KP7.out.cell 2
          simp only [List.getElem?_cons_zero, List.getElem?_cons_succ] at p0 p1 p2
          have z0 := KZ7.out.cell 0
          have z1 := KZ7.out.cell 1
          have z2 := KZ7.out.cell 2
          simp only [List.getElem?_cons_zero, List.getElem?_cons_succ] at z0 z1 z2
          have f0 := KZ7.out.free 0
          have f1 := KZ7.out.free 1
          have f2 := KZ7.out.free 2
          clear hok hp
          go_wp2_with fail
          have hq := three_ok KZ7.out (.slice A0 4 c0) (.int .i64 d.exp) (.slice Av ys.length cv)
          clear z0 z1 z2 f0 f1 f2 p0 p1 p2
          generalize (((w7.setCell ⟨w.heap.size + 1, 0, none⟩ (.slice A0 4 c0)).setCell ⟨w.heap.size + 1, 1, none⟩ (.int .i64 d.exp)).setCell ⟨w.heap.size + 1, 2, none⟩ (.slice Av ys.length cv)) = WF at hq ⊢
          obtain ⟨hqo, hqb⟩ := hq
          have n0 := hqb.cell 0
          have n1 := hqb.cell 1
          have n2 := hqb.cell 2
          simp only [List.getElem?_cons_zero, List.getElem?_cons_succ] at n0 n1 n2
          refine bodyPost_ret (v := .tuple #[.agg #[.slice A0 4 c0, .int .i64 d.exp, .slice Av ys.length cv], .slice Al ls.length cl', .int .i64 0]) ?_ rfl ?_
          · simp [results, Try.results23, asAddr, Result.andThen, n0, n1, n2, go_sem]
          · have hn : ∀ i, i = w.heap.size + 1 → ¬ i < w.heap.size := fun i hi => by omega
            have hs := hqo.size
            refine ofGot_yes (HB7.out.trans (hqo.below HB7.out.size (fun i hi => by omega))) HO.out hz.out.1 hz.out.2.1 ?_ ?_ ?_
            · exact (HI7.out.off_small hqo KZ7.out (by rw [length_ints]; simp)).more (by have := hqo.size; omega)
            · exact Reads.of_own (own_off HO7.out hqo (fun k hk e => by have := (HO7.out.lt k hk).1; have := HZG.out; omega))
            · exact Reads.of_own (own_off HL7.out hqo (fun k hk e => by have := (HL7.out.lt k hk).1; have := HZG.out; omega))
end Go.Proofs.Ytfhlailhcfjjaaa
