/- The walk of DatasetSpoilt. -/
import Derived.Test.YtfhlailhcfjjaaaWalkDataBack
import Derived.Test.YtfhlailhcfjjaaaMany
import Derived.Outline
import Derived.Deep.CutBlock
import Derived.Deep.DeepCutAuto
namespace Go.Proofs.Ytfhlailhcfjjaaa
open Go.RowKit
set_option linter.unusedVariables false
set_option linter.unusedSimpArgs false

theorem mod_lt (a m : Int) (h0 : 0 < m) (h1 : m ≤ 1000) : ∃ j : Nat, wrap64 ((IntKind.u64.wrap a).tmod m) = j ∧ (j : Int) < m := by
  have hu : 0 ≤ IntKind.u64.wrap a := by rw [IntKind.wrap_u64]; omega
  have ht : (IntKind.u64.wrap a).tmod m = (IntKind.u64.wrap a) % m := Int.tmod_eq_emod_of_nonneg hu
  have h2 := Int.emod_nonneg (IntKind.u64.wrap a) (show m ≠ 0 by omega)
  have h3 := Int.emod_lt_of_pos (IntKind.u64.wrap a) h0
  rw [ht]
  generalize (IntKind.u64.wrap a) % m = x at h2 h3
  refine ⟨x.toNat, ?_, by omega⟩
  unfold wrap64
  omega
theorem own_emptyN (W : World) (base : Nat) (e : TypeId) (sz g : Nat) (hg : g = W.heap.size) (h : base ≤ W.heap.size) : (W.alloc (.cells #[] e)).ownsRow base e sz (.slice (some ⟨g, 0, none⟩) 0 0) 0 [] := by
  subst hg
  have := (Blk.fresh W e []).own (size := sz) (n := 0) (cap := 0) h (Nat.le_refl _) (by unfold maxLen; omega) (by simp)
  simpa using this
theorem exs_one (xs : List ExV) (h : ∀ e ∈ xs, e.dv.oneCell' = true) : ∀ u ∈ xs.flatMap ExV.cells, u.oneCell' = true := by
  intro u hu
  obtain ⟨e, he, hu⟩ := List.mem_flatMap.1 hu
  simp only [ExV.cells, List.mem_cons, List.not_mem_nil, or_false] at hu
  rcases hu with rfl | rfl
  · exact h e he
  · rfl
theorem row_at {W : World} {base g n c j : Nat} {t : TypeId} {xs : List ExV} {e : ExV} (h : W.ownsRow base t 2 (.slice (some ⟨g, 0, none⟩) n c) n (xs.flatMap ExV.cells)) (hn : xs.length = n) (hj : xs[j]? = some e) :
    W.cell? ⟨g, j * 2, none⟩ = some e.dv ∧ W.cell? ⟨g, j * 2 + 1, none⟩ = some (.int .i64 e.label) ∧ W.frozen? ⟨g, j * 2, none⟩ = false ∧ W.frozen? ⟨g, j * 2 + 1, none⟩ = false ∧ g < W.heap.size ∧ base ≤ g ∧ n ≤ c := by
  have hjl := (List.getElem?_eq_some_iff.1 hj).1
  obtain ⟨g', cap, rest, e', hb, hlt, hnc, hcm, hlen, hxl, hblk⟩ := own_blkN h (by omega)
  injection e' with e1 e2 e3
  injection e1 with e1
  injection e1 with e1
  subst e1 e3
  have q := fun i (hi : i < 2) => flat_at ExV.cells 2 xs (fun p _ => rfl) j i e hj hi
  have q0 := q 0 (by omega)
  have q1 := q 1 (by omega)
  refine ⟨?_, ?_, hblk.free _, hblk.free _, hlt, hb, hnc⟩
  · rw [hblk.cell, List.getElem?_append_left (by omega), ← Nat.add_zero (j * 2), q0]; rfl
  · rw [hblk.cell, List.getElem?_append_left (by omega), q1]; rfl
/-- an example that may not be *-/
theorem one_label {d : DatV} {x : ExV} (h : ¬ (0 ≤ x.label ∧ x.label ≤ d.cl - 1)) : oneI d x = false := by
  unfold oneI inD
  simp only [Bool.and_eq_false_iff, decide_eq_false_iff_not]
  omega
theorem one_length {d : DatV} {x : ExV} (h : (x.data.length : Int) ≠ sizeD d) : oneI d x = false := by
  unfold oneI
  simp [h]
theorem one_none {d : DatV} {x : ExV} (h : -128 ∈ x.data) : oneI d x = false := by
  unfold oneI
  simp [h]
theorem oneI_none {d : DatV} {x : ExV} (h : oneI d x = true) : -128 ∉ x.data := by
  intro h2
  rw [one_none h2] at h
  cases h
theorem may_spoilt {d d' : DatV} {j : Nat} {x : ExV} (hj : j < d.xs.length) (hx : d'.xs = d.xs.set j x) (ha : d.a = d'.a) (hb : d.b = d'.b) (hc : d.c = d'.c) (hl : d.cl = d'.cl) (h : oneI d x = false) : mayD d' = false := by
  unfold mayD
  have : d'.xs.all (oneI d') = false := by
    rw [List.all_eq_false]
    refine ⟨x, ?_, ?_⟩
    · rw [hx]; exact List.mem_set hj x
    · rw [← oneI_form d d' x x ha hb hc hl rfl rfl, h]; simp
  rw [this, Bool.and_false]
theorem same_spoilt {d d' : DatV} {j : Nat} {x y : ExV} (hj : d.xs[j]? = some y) (hx : d'.xs = d.xs.set j x) (h : sameEx y x = false) : sameD d d' = false := by
  have hlt := (List.getElem?_eq_some_iff.1 hj).1
  have : sameExs d.xs d'.xs = false := by
    unfold sameExs
    rw [Bool.and_eq_false_iff]
    right
    rw [List.all_eq_false]
    refine ⟨(y, x), ?_, by simp [h]⟩
    rw [hx]
    refine List.mem_iff_getElem?.2 ⟨j, ?_⟩
    rw [List.getElem?_zip_eq_some]
    refine ⟨hj, ?_⟩
    rw [List.getElem?_set_self hlt]
  unfold sameD
  rw [this, Bool.and_false]
theorem same_self (d : DatV) : sameD d d = true := by
  unfold sameD
  rw [sameExs_of rfl]
  simp
theorem own_one (W : World) (base : Nat) (e : TypeId) (g : Nat) (u : Value) (hg : g = W.heap.size) (h : base ≤ W.heap.size) : (W.alloc (.cells #[u] e)).ownsRow base e 1 (.slice (some ⟨g, 0, none⟩) 1 1) 1 [u] := by
  subst hg
  exact (Blk.fresh W e [u]).ownAll h (by unfold maxLen; omega) rfl
/-- an example is turned, beside all that was there -/
def Turned (d : DatV) (y : ExV) (w6 : World) (g q : Nat) (wx : World) : Prop :=
  Below w6.heap.size w6 wx ∧ ∃ (A : Option Addr) (c : Nat) (data : List Int) (lab : Int), Blk wx q 45 [.slice A data.length c, .int .i64 lab] ∧ oneI d ⟨.slice A data.length c, data, lab⟩ = false ∧ sameEx y ⟨.slice A data.length c, data, lab⟩ = false ∧
    ∀ W, Off (fun i => i = g) wx W → (⟨.slice A data.length c, data, lab⟩ : ExV).Ok W W.heap.size
set_option maxRecDepth 100000 in
set_option maxHeartbeats 6400000 in
theorem datasetSpoilt_walk (v0 : Value) (a0 : DatV) (a1 a2 : Int) (w : World) (o0 : DataOf w w.heap.size v0 a0) (w1 : (Lit.int .i64 a1).wf = true) (w2 : (Lit.int .i64 a2).wf = true) :
    Calls Try.prog 11 #[v0, .int .i64 a1, .int .i64 a2] w fun en w' => en = .returned (.bool true) ∧ Below w.heap.size w w' := by
  obtain ⟨a, b, c, ex, cl, lv, xs⟩ := a0
  have h0 := o0
  obtain ⟨rfl, _, hx⟩ := o0
  simp only at hx
  obtain ⟨A, k, rfl⟩ := hx.form
  have hlen := hx.len
  have hb0 := one_alloc w (.cells #[.int .i64 a, .int .i64 b, .int .i64 c, .int .i64 ex, .int .i64 cl, .slice A xs.length k] 33)
  have hk0 := Blk.fresh w 33 [.int .i64 a, .int .i64 b, .int .i64 c, .int .i64 ex, .int .i64 cl, .slice A xs.length k]
  have HB := Lib.hid hb0
  have HK := Lib.hid hk0
  have hd1 := h0.below hb0
  have HD := Lib.hid hd1
  have hl := hk0.lt
  have hs := hb0.size
  have HL := Lib.hid (light_any _ _ (w.alloc (.cells #[.int .i64 a, .int .i64 b, .int .i64 c, .int .i64 ex, .int .i64 cl, .slice A xs.length k] 33)) w.heap.size hs hd1)
  clear h0 hx hb0 hk0 hd1 w1 w2
  go_enter Try.func11, Try.ntmps11
  go_wp2_with fail
  generalize (w.alloc (.cells #[.int .i64 a, .int .i64 b, .int .i64 c, .int .i64 ex, .int .i64 cl, .slice A xs.length k] 33)) = w1 at HB HK HD hl hs HL ⊢
  refine HL.out.mono ?_
  rintro en w2 ⟨⟨b2, rfl, hb2⟩, hw2⟩
  have HK2 := Lib.hid (HK.out.below hw2 hl)
  have HB2 := Lib.hid (HB.out.trans (hw2.mono hs))
  have s2 := HB2.out.size
  have l2 := HK2.out.lt
  have HD2 := Lib.hid (HD.out.below (hw2.mono hs))
  clear HD HK HB HL hw2
  cases b2 with
  | false =>
    clear hb2
    go_wp2_with (go_at_call 17; refine (awake22_any _).mono ?_; rintro en w' ⟨rfl, hb9⟩)
    go_ret
    exact ⟨rfl, HB2.out.trans (hb9.mono s2)⟩
  | true =>
    clear hb2
    have m0 := HK2.out.cell 0
    have m1 := HK2.out.cell 1
    have m2 := HK2.out.cell 2
    have m3 := HK2.out.cell 3
    have m4 := HK2.out.cell 4
    have m5 := HK2.out.cell 5
    simp only [List.getElem?_cons_zero, List.getElem?_cons_succ] at m0 m1 m2 m3 m4 m5
    obtain ⟨r, hr⟩ : ∃ r, mayD ⟨a, b, c, ex, cl, .slice A xs.length k, xs⟩ = r := ⟨_, rfl⟩
    go_wp2_with fail
    refine (dmay_any _ _ w2 w.heap.size s2 HD2.out r hr).mono ?_
    clear m0 m1 m2 m3 m4 m5
    rintro en w3 ⟨rfl, hw3⟩
    have HK3 := Lib.hid (HK2.out.below hw3 l2)
    have HB3 := Lib.hid (HB2.out.trans (hw3.mono s2))
    have s3 := HB3.out.size
    have l3 := HK3.out.lt
    have HD3 := Lib.hid (HD2.out.below (hw3.mono s2))
    have HM := Lib.hid hr
    clear HD2 HK2 HB2 hw3 hr s2 l2
    cases r with
    | false =>
      go_wp2_with (go_at_call 17; refine (awake22_any _).mono ?_; rintro en w' ⟨rfl, hb9⟩)
      go_ret
      exact ⟨rfl, HB3.out.trans (hb9.mono s3)⟩
    | true =>
      obtain ⟨hhd, hone⟩ := mayD_of HM.out
      obtain ⟨_, _, _, _, ⟨c1, c2⟩, n1, n2⟩ := headI_of hhd
      simp only at c1 c2 n1 n2
      obtain ⟨j, hj, hjn⟩ := mod_lt a1 (xs.length : Int) (by omega) (by omega)
      have HO := Lib.hid hone
      clear hhd hone
      have m0 := HK3.out.cell 0
      have m1 := HK3.out.cell 1
      have m2 := HK3.out.cell 2
      have m3 := HK3.out.cell 3
      have m4 := HK3.out.cell 4
      have m5 := HK3.out.cell 5
      simp only [List.getElem?_cons_zero, List.getElem?_cons_succ] at m0 m1 m2 m3 m4 m5
      have u1 : (IntKind.u64.wrap (xs.length : Int)) = (xs.length : Int) := by rw [IntKind.wrap_u64]; omega
      have R3 := Lib.hid HD3.out.xs.rd
      have F3 : Hid (∀ e ∈ xs, e.dv.oneCell' = true) := Lib.hid (fun e he => by
        obtain ⟨_, _, e1, _⟩ := (HD3.out.xs.ok.out e he).rd.form
        rw [e1]; rfl)
      have L3 : Hid ((xs.flatMap ExV.cells).length = xs.length * 2) := Lib.hid (flat_length ExV.cells 2 xs (fun p _ => rfl))
      go_upto_region 5 with fail
      rw [hj]
      clear hj
      go_upto_region 6 with (at_builtin; refine wpList_extendN elem_ex _ rfl (.tmp 29) (.tmp 31) rfl (w3.heap.size + 1) 0 _ [] rfl (own_emptyN _ _ _ 2 _ (World.size_alloc _ _).symm (by rw [World.size_alloc]; omega)) w.heap.size xs.length _ (xs.flatMap ExV.cells) rfl ((R3.out.alloc s3 _).alloc (by rw [World.size_alloc]; omega) _) L3.out (exs_one xs F3.out) (by unfold maxLen; omega) (by omega) (by rw [World.size_alloc, World.size_alloc]; omega) ?_; intro A5 c5 w5 hown5 hg5 hf5; simp only [Nat.zero_add, List.nil_append] at hown5 ⊢; have hk7 := ((Blk.fresh w3 33 [.int .i64 a, .int .i64 b, .int .i64 c, .int .i64 ex, .int .i64 cl, .slice A xs.length k]).alloc (.cells #[] 45)).grown hg5 (by intro he; have := Option.some.inj he; dsimp only at this; omega); have q7 := hk7.cell 5; have f7 := hk7.free 5; have l7 := hk7.lt; simp only [List.getElem?_cons_zero, List.getElem?_cons_succ] at q7)
      have hb5 : Below w.heap.size w3 w5 := (((Below.refl _ w3).alloc s3 _).alloc (by rw [World.size_alloc]; omega) _).grown hg5 (by rw [World.size_alloc, World.size_alloc]; omega) (fun k hk => by have hk2 := Option.some.inj hk; dsimp only at hk2; omega)
      have hb6 := hb5.setCell (p := ⟨w3.heap.size, 5, none⟩) s3 (.slice A5 xs.length c5)
      have HB6 := Lib.hid (HB3.out.trans hb6)
      have K7 := Lib.hid (hk7.put 5 (.slice A5 xs.length c5))
      have hx3 := ((HK3.out.alloc (.cells #[.int .i64 a, .int .i64 b, .int .i64 c, .int .i64 ex, .int .i64 cl, .slice A xs.length k] 33)).alloc (.cells #[] 45)).grown hg5 (by intro he; have := Option.some.inj he; dsimp only at this; omega)
      have K3 := Lib.hid (hx3.far (p := ⟨w3.heap.size, 5, none⟩) (by show _ ≠ w3.heap.size; omega) (.slice A5 xs.length c5))
      have D6 := Lib.hid (HD3.out.below hb6)
      obtain ⟨g, c9, _, e9, hg, _⟩ := own_blkN hown5 (by omega)
      injection e9 with e9 _ e10
      subst e9 e10
      have OW := Lib.hid (own_off hown5 ((Off.refl (fun i => i = w3.heap.size) w5).setCell (p := ⟨w3.heap.size, 5, none⟩) (.inl rfl) (.slice (some ⟨g, 0, none⟩) xs.length c5)) (fun k hk => by have hk2 := Option.some.inj hk; dsimp only at hk2; omega))
      simp only [List.set_cons_succ, List.set_cons_zero] at K7
      clear hb5 hb6 hx3 hk7 hown5 hg5 hf5 HB3 HK3 HD3 R3 F3 L3 q7 f7 l7
      clear m0 m1 m2 m3 m4 m5
      generalize w3.heap.size = p7 at *
      generalize (w5.setCell ⟨p7, 5, none⟩ (.slice (some ⟨g, 0, none⟩) xs.length c5)) = w6 at *
      obtain ⟨x, hx⟩ : ∃ x, xs[j]? = some x := ⟨xs[j], List.getElem?_eq_getElem (by omega)⟩
      obtain ⟨q0, q1, f0, f1, lg, _, gc⟩ := row_at OW.out rfl hx
      have HX := Lib.hid hx
      have oX := D6.out.xs.ok.out x (List.mem_of_getElem? hx)
      have H1 := Lib.hid (HO.out x (List.mem_of_getElem? hx))
      obtain ⟨dv, data, lab⟩ := x
      obtain ⟨Ad, cd, ed, _, _⟩ := oX.rd.form
      simp only at ed q0 q1
      rw [length_ints] at ed
      subst ed
      have OX := Lib.hid oX
      have m5 := K7.out.cell 5
      simp only [List.getElem?_cons_zero, List.getElem?_cons_succ] at m5
      have i1 : (0 : Int) ≤ (j : Int) := by omega
      clear hx oX
      go_upto_region 7 with fail
      go_upto_block 0 with fail
      obtain ⟨h, hh⟩ : ∃ h, (IntKind.u64.wrap a2).tmod 4 = h := ⟨_, rfl⟩
      rw [hh]
      clear hh
      have hbX := one_alloc w6 (.cells #[.slice Ad data.length cd, .int .i64 lab] 45)
      have k3 := (K3.out.below hbX K3.out.lt).cell 4
      simp only [List.getElem?_cons_zero, List.getElem?_cons_succ] at k3
      have l3' := K3.out.lt
      clear m5 q0 q1 f0 f1
      go_cut [43] (fun s wx => Turned ⟨a, b, c, ex, cl, .slice A xs.length k, xs⟩ ⟨.slice Ad data.length cd, data, lab⟩ w6 g w6.heap.size wx)
      case first =>
        have hlab := oneI_label H1.out
        have hlen1 := oneI_len H1.out
        have hno := oneI_none H1.out
        simp only at hlab hlen1 hno
        have hsz := (sizeD_in (mayD_of HM.out).1)
        have hl2 : data.length ≤ 2048 ∧ 0 < data.length := by omega
        obtain ⟨hl2, hl3⟩ := hl2
        have HL1 := Lib.hid hlen1
        have HNO := Lib.hid hno
        have RD : Hid (∀ wx, Below w6.heap.size w6 wx → ∀ W, Off (fun i => i = g) wx W → Reads W W.heap.size (.slice Ad data.length cd) (ints .i8 data)) := Lib.hid (fun wx hwx W hW => by
          have h1 := HB6.out.size
          exact ((OX.out.rd.below (hwx.mono h1)).below (hW.below (by have := hwx.size; omega) (fun i hi => by omega))).more (by have h2 := hwx.size; have h3 := hW.size; omega))
        clear hlen1 hno hsz
        by_cases h0 : h = 0
        · subst h0
          go_wp2_with fail
          go_meet
          case rel =>
            refine ⟨one_alloc w6 _, Ad, cd, data, cl, Blk.fresh w6 _ _, one_label (by simp only; omega), ?_, fun W hW => ⟨RD.out _ (one_alloc w6 _) W hW, by unfold inW; simp only; omega, OX.out.data, OX.out.len⟩⟩
            unfold sameEx
            have : (lab == cl) = false := by simp; omega
            simp [this]
        · have t0 : (h == 0) = false := by simpa using h0
          clear h0
          have hR := OX.out.rd
          simp only at hR
          have R6 := Lib.hid hR
          have s6 := HB6.out.size
          by_cases h1 : h = 1
          · subst h1
            clear t0 hR
            go_wp2_with (first
              | (at_builtin; refine wpList_extend elem_i8d _ rfl (.tmp 50) (.tmp 52) rfl (w6.heap.size + 1) 0 _ [] rfl (own_empty _ _ _ _ (World.size_alloc _ _).symm (by rw [World.size_alloc]; omega)) w.heap.size _ (ints .i8 data) rfl ((R6.out.alloc s6 _).alloc (by rw [World.size_alloc]; omega) _) (ints_one _ _) (by rw [length_ints]; unfold maxLen; omega) (by rw [length_ints]; omega) (by rw [World.size_alloc, World.size_alloc]; omega) ?_; intro A8 c8 w8 hown8 hg8 hf8; simp only [length_ints, Nat.zero_add, List.nil_append] at hown8 ⊢; have hk8 := ((Blk.fresh w6 45 [.slice Ad data.length cd, .int .i64 lab]).alloc (.cells #[] 52)).grown hg8 (by intro he; have := Option.some.inj he; dsimp only at this; omega))
              | (at_builtin; refine wpList_extend elem_i8d _ rfl (.tmp 53) (.tmp 54) rfl (w6.heap.size + 1) data.length _ _ rfl (hown8.alloc _) _ _ [.int .i8 0] rfl (Reads.one_ w8 _ _) (by simp [Value.oneCell']) (by simp only [List.length_cons, List.length_nil, maxLen]; omega) (by simp only [List.length_cons, List.length_nil]; omega) (by have := hg8.size; rw [World.size_alloc, World.size_alloc] at this; rw [World.size_alloc]; omega) ?_; intro A9 c9 w9 hown9 hg9 hf9; simp only [List.length_cons, List.length_nil, Nat.zero_add] at hown9 ⊢; have hk9 := (hk8.alloc (.cells #[.int .i8 0] 52)).grown hg9 (by intro he; have := (hown8.lt _ he.symm).1; omega); have q9 := hk9.cell 0; have f9 := hk9.free 0; have l9 := hk9.lt; simp only [List.getElem?_cons_zero, List.getElem?_cons_succ] at q9))
            have hl9 := fun k hk => (hown8.lt k hk).1
            have e9 : ints .i8 data ++ [.int .i8 0] = ints .i8 (data ++ [0]) := by rw [← ints_append]; rfl
            rw [e9] at hown9
            have hb8 := (((Below.refl _ w6).alloc (Nat.le_refl _) (.cells #[.slice Ad data.length cd, .int .i64 lab] 45)).alloc (by rw [World.size_alloc]; omega) (.cells #[] 52)).grown hg8 (by rw [World.size_alloc, World.size_alloc]; omega) (fun k hk => by have hk2 := Option.some.inj hk; dsimp only at hk2; omega)
            have hb9 := ((hb8.alloc hb8.size (.cells #[.int .i8 0] 52)).grown hg9 (by rw [World.size_alloc]; have := hb8.size; omega) (fun k hk => by have := hl9 k hk; omega)).setCell (p := ⟨w6.heap.size, 0, none⟩) (Nat.le_refl _) (.slice A9 (data.length + 1) c9)
            have kb9 := hk9.put 0 (.slice A9 (data.length + 1) c9)
            have ow9 := own_off hown9 ((Off.refl (fun i => i = w6.heap.size) w9).setCell (p := ⟨w6.heap.size, 0, none⟩) (.inl rfl) (.slice A9 (data.length + 1) c9)) (fun k hk => by have := (hown9.lt k hk).1; omega)
            simp only [List.set_cons_zero] at kb9
            go_meet
            case rel =>
              have e8 : (data ++ [(0 : Int)]).length = data.length + 1 := by simp
              refine ⟨hb9, A9, c9, data ++ [0], lab, by rw [e8]; exact kb9, one_length (by simp only [e8]; have := HL1.out; unfold sizeD at this ⊢; simp only at this ⊢; omega), ?_, fun W hW => ⟨?_, OX.out.label, ?_, by simp only [e8]; omega⟩⟩
              · unfold sameEx
                have : (data == data ++ [0]) = false := by
                  rw [beq_eq_false_iff_ne]
                  intro e
                  have := congrArg List.length e
                  simp at this
                simp [this]
              · simp only [e8]
                exact Reads.of_own (own_off ow9 hW (fun k hk => by have := (ow9.lt k hk).1; omega))
              · intro y hy
                simp only [List.mem_append, List.mem_singleton] at hy
                rcases hy with hy | rfl
                · exact OX.out.data y hy
                · omega
          · have t1 : (h == 1) = false := by simpa using h1
            clear h1
            by_cases h2 : h = 2
            · subst h2
              clear t0 t1
              obtain ⟨_, _, _, eA, hR1, hR2, _, hat⟩ := hR
              injection eA with eA1 eA2 eA3
              subst eA1 eA2 eA3
              obtain ⟨ga, oa, rfl, hga, _⟩ := hat.out hl3
              clear hat
              have RT : Hid (∀ o', (1 < cd → o' = oa + 1) → Reads w6 w.heap.size (.slice (some ⟨ga, o', none⟩) (data.length - 1) (cd - 1)) (ints .i8 (data.drop 1))) := Lib.hid (fun o' ho => by
                have := R6.out.others (k := 1) hl3 o' ho
                unfold ints at this ⊢
                rwa [List.map_drop])
              have hcl := hR2
              by_cases hc1 : cd = 1
              · obtain rfl : cd = 1 := hc1
                have hz : data.length - 1 = 0 := by omega
                have hz1 : data.length = 1 := by omega
                have RT0 := RT.out oa (fun ho => by omega)
                rw [hz] at RT0
                have HZ := Lib.hid hz
                have HZ1 := Lib.hid hz1
                have RT1 := Lib.hid RT0
                clear hz hz1 RT0
                go_wp2_with (at_builtin; refine wpList_extend elem_i8d _ rfl (.tmp 59) (.tmp 62) rfl (w6.heap.size + 1) 1 _ [.int .i8 (-128)] rfl (own_one _ _ _ _ _ (World.size_alloc _ _).symm (by rw [World.size_alloc]; omega)) w.heap.size _ (ints .i8 (data.drop 1)) rfl ((RT1.out.alloc s6 _).alloc (by rw [World.size_alloc]; omega) _) (ints_one _ _) (by rw [length_ints, List.length_drop]; unfold maxLen; omega) (by rw [length_ints, List.length_drop]; omega) (by rw [World.size_alloc, World.size_alloc]; omega) ?_; intro A8 c8 w8 hown8 hg8 hf8; simp only [length_ints, List.length_drop, HZ.out, Nat.add_zero] at hown8 ⊢; have hk8 := ((Blk.fresh w6 45 [.slice (some ⟨ga, oa, none⟩) data.length 1, .int .i64 lab]).alloc (.cells #[.int .i8 (-128)] 52)).grown hg8 (by intro he; have := Option.some.inj he; dsimp only at this; omega); have q9 := hk8.cell 0; have f9 := hk8.free 0; have l9 := hk8.lt; simp only [List.getElem?_cons_zero, List.getElem?_cons_succ] at q9)
                have e9 : [Value.int .i8 (-128)] ++ ints .i8 (data.drop 1) = ints .i8 (-128 :: data.drop 1) := rfl
                rw [e9] at hown8
                have hb8 := ((((Below.refl _ w6).alloc (Nat.le_refl _) (.cells #[.slice (some ⟨ga, oa, none⟩) data.length 1, .int .i64 lab] 45)).alloc (by rw [World.size_alloc]; omega) (.cells #[.int .i8 (-128)] 52)).grown hg8 (by rw [World.size_alloc, World.size_alloc]; omega) (fun k hk => by have hk2 := Option.some.inj hk; dsimp only at hk2; omega)).setCell (p := ⟨w6.heap.size, 0, none⟩) (Nat.le_refl _) (.slice A8 1 c8)
                have kb9 := hk8.put 0 (.slice A8 1 c8)
                have ow9 := own_off hown8 ((Off.refl (fun i => i = w6.heap.size) w8).setCell (p := ⟨w6.heap.size, 0, none⟩) (.inl rfl) (.slice A8 1 c8)) (fun k hk => by have := (hown8.lt k hk).1; omega)
                simp only [List.set_cons_zero] at kb9
                go_meet
                case rel =>
                  have e8 : (-128 :: data.drop 1 : List Int).length = 1 := by rw [List.length_cons, List.length_drop, HZ.out]
                  refine ⟨hb8, A8, c8, -128 :: data.drop 1, lab, by rw [e8]; exact kb9, one_none (by simp), ?_, fun W hW => ⟨?_, OX.out.label, ?_, by simp only [e8]; omega⟩⟩
                  · unfold sameEx
                    have : (data == -128 :: data.drop 1) = false := by
                      rw [beq_eq_false_iff_ne]
                      intro e
                      have h2 := HNO.out
                      rw [e] at h2
                      simp at h2
                    show (lab == lab && (data == -128 :: data.drop 1)) = false
                    rw [this, Bool.and_false]
                  · simp only [e8]
                    exact Reads.of_own (own_off ow9 hW (fun k hk => by have := (ow9.lt k hk).1; omega))
                  · intro y hy
                    rcases List.mem_cons.1 hy with rfl | hy
                    · omega
                    · exact OX.out.data y (List.mem_of_mem_drop hy)
              · go_wp2_with (at_builtin; refine wpList_extend elem_i8d _ rfl (.tmp 59) (.tmp 62) rfl (w6.heap.size + 1) 1 _ [.int .i8 (-128)] rfl (own_one _ _ _ _ _ (World.size_alloc _ _).symm (by rw [World.size_alloc]; omega)) w.heap.size _ (ints .i8 (data.drop 1)) rfl (((RT.out (oa + 1) (fun _ => rfl)).alloc s6 _).alloc (by rw [World.size_alloc]; omega) _) (ints_one _ _) (by rw [length_ints, List.length_drop]; unfold maxLen; omega) (by rw [length_ints, List.length_drop]; omega) (by rw [World.size_alloc, World.size_alloc]; omega) ?_; intro A8 c8 w8 hown8 hg8 hf8; simp only [length_ints, List.length_drop] at hown8 ⊢; have hk8 := ((Blk.fresh w6 45 [.slice (some ⟨ga, oa, none⟩) data.length cd, .int .i64 lab]).alloc (.cells #[.int .i8 (-128)] 52)).grown hg8 (by intro he; have := Option.some.inj he; dsimp only at this; omega); have q9 := hk8.cell 0; have f9 := hk8.free 0; have l9 := hk8.lt; simp only [List.getElem?_cons_zero, List.getElem?_cons_succ] at q9)
                have e9 : [Value.int .i8 (-128)] ++ ints .i8 (data.drop 1) = ints .i8 (-128 :: data.drop 1) := rfl
                rw [e9] at hown8
                have hb8 := ((((Below.refl _ w6).alloc (Nat.le_refl _) (.cells #[.slice (some ⟨ga, oa, none⟩) data.length cd, .int .i64 lab] 45)).alloc (by rw [World.size_alloc]; omega) (.cells #[.int .i8 (-128)] 52)).grown hg8 (by rw [World.size_alloc, World.size_alloc]; omega) (fun k hk => by have hk2 := Option.some.inj hk; dsimp only at hk2; omega)).setCell (p := ⟨w6.heap.size, 0, none⟩) (Nat.le_refl _) (.slice A8 (1 + (data.length - 1)) c8)
                have kb9 := hk8.put 0 (.slice A8 (1 + (data.length - 1)) c8)
                have ow9 := own_off hown8 ((Off.refl (fun i => i = w6.heap.size) w8).setCell (p := ⟨w6.heap.size, 0, none⟩) (.inl rfl) (.slice A8 (1 + (data.length - 1)) c8)) (fun k hk => by have := (hown8.lt k hk).1; omega)
                simp only [List.set_cons_zero] at kb9
                go_meet
                case rel =>
                  have e8 : (-128 :: data.drop 1 : List Int).length = 1 + (data.length - 1) := by rw [List.length_cons, List.length_drop]; omega
                  refine ⟨hb8, A8, c8, -128 :: data.drop 1, lab, by rw [e8]; exact kb9, one_none (by simp), ?_, fun W hW => ⟨?_, OX.out.label, ?_, by simp only [e8]; omega⟩⟩
                  · unfold sameEx
                    have : (data == -128 :: data.drop 1) = false := by
                      rw [beq_eq_false_iff_ne]
                      intro e
                      have h2 := HNO.out
                      rw [e] at h2
                      simp at h2
                    show (lab == lab && (data == -128 :: data.drop 1)) = false
                    rw [this, Bool.and_false]
                  · simp only [e8]
                    exact Reads.of_own (own_off ow9 hW (fun k hk => by have := (ow9.lt k hk).1; omega))
                  · intro y hy
                    rcases List.mem_cons.1 hy with rfl | hy
                    · omega
                    · exact OX.out.data y (List.mem_of_mem_drop hy)
            · have t2 : (h == 2) = false := by simpa using h2
              clear h2 hR
              go_wp2_with fail
              go_meet
              case rel =>
                refine ⟨one_alloc w6 _, Ad, cd, data, -1, Blk.fresh w6 _ _, one_label (by simp only; omega), ?_, fun W hW => ⟨RD.out _ (one_alloc w6 _) W hW, by unfold inW; simp only; omega, OX.out.data, OX.out.len⟩⟩
                unfold sameEx
                have : (lab == -1) = false := by simp; omega
                simp [this]
      case rest =>
        obtain ⟨hbw, A8, c8, dat, lb, kx, hone, hsm, hok⟩ := hcut
        have hzw := hbw.size
        have s6 := HB6.out.size
        have K7c := Lib.hid (K7.out.below hbw K7.out.lt)
        have K3c := Lib.hid (K3.out.below hbw K3.out.lt)
        have OWc := Lib.hid (own_off OW.out (Off.of_below hbw (fun i hi => .inl hi) : Off (fun i => w6.heap.size ≤ i) w6 wc) (fun k hk => by have := (OW.out.lt k hk).2; omega))
        have Dc := Lib.hid (D6.out.below (hbw.mono s6))
        have HBc := Lib.hid (HB6.out.trans (hbw.mono s6))
        obtain ⟨q0, q1, f0, f1, lg2, _, _⟩ := row_at OWc.out rfl HX.out
        have m5 := K7c.out.cell 5
        have x0 := kx.cell 0
        have x1 := kx.cell 1
        simp only [List.getElem?_cons_zero, List.getElem?_cons_succ] at m5 x0 x1
        have KX := Lib.hid kx
        have HONE := Lib.hid hone
        have HSM := Lib.hid hsm
        have HOK := Lib.hid hok
        simp only at q0 q1
        have l7 := K7c.out.lt
        have l3 := K3c.out.lt
        have hpg : p7 ≠ g := by omega
        have hwg : w.heap.size ≠ g := by omega
        clear kx hone hsm hok hbw K7 K3 OW D6 HB6 hbX k3
        go_upto_region 16 with fail
        clear m5 x0 x1 q0 q1 f0 f1 KX
        have hoff : Off (fun i => i = g) wc ((wc.setCell ⟨g, j * 2, none⟩ (.slice A8 dat.length c8)).setCell ⟨g, j * 2 + 1, none⟩ (.int .i64 lb)) := ((Off.refl (fun i => i = g) wc).setCell (p := ⟨g, j * 2, none⟩) (.inl rfl) _).setCell (p := ⟨g, j * 2 + 1, none⟩) (.inl rfl) _
        have how : ((wc.setCell ⟨g, j * 2, none⟩ (.slice A8 dat.length c8)).setCell ⟨g, j * 2 + 1, none⟩ (.int .i64 lb)).ownsRow (p7 + 1) 45 2 (.slice (some ⟨g, 0, none⟩) xs.length c5) xs.length ((xs.set j ⟨.slice A8 dat.length c8, dat, lb⟩).flatMap ExV.cells) := own_setAt (f := ExV.cells) (sz := 2) OWc.out (fun p _ => rfl) rfl (by omega) ⟨.slice A8 dat.length c8, dat, lb⟩ rfl
        have hok2 := HOK.out _ hoff
        have hDc := (Dc.out.below (hoff.below (by omega) (fun i hi => by omega)))
        have k7 := (K7c.out.far (p := ⟨g, j * 2, none⟩) hpg (.slice A8 dat.length c8)).far (p := ⟨g, j * 2 + 1, none⟩) hpg (.int .i64 lb)
        have k3 := (K3c.out.far (p := ⟨g, j * 2, none⟩) hwg (.slice A8 dat.length c8)).far (p := ⟨g, j * 2 + 1, none⟩) hwg (.int .i64 lb)
        have hBc := HBc.out.trans (hoff.below (by omega) (fun i hi => by omega))
        have hxs : ExsOf ((wc.setCell ⟨g, j * 2, none⟩ (.slice A8 dat.length c8)).setCell ⟨g, j * 2 + 1, none⟩ (.int .i64 lb)) ((wc.setCell ⟨g, j * 2, none⟩ (.slice A8 dat.length c8)).setCell ⟨g, j * 2 + 1, none⟩ (.int .i64 lb)).heap.size (.slice (some ⟨g, 0, none⟩) xs.length c5) (xs.set j ⟨.slice A8 dat.length c8, dat, lb⟩) := by
          refine ⟨ReadsN.of_own (by omega) how, Lib.hid (fun e he => ?_), ⟨_, _, by rw [List.length_set]⟩, by rw [List.length_set]; omega⟩
          rcases List.mem_or_eq_of_mem_set he with he | rfl
          · have := hDc.xs.ok.out e he
            exact ⟨this.rd.more hBc.size, this.label, this.data, this.len⟩
          · exact hok2
        have HE : Hid (DataOf _ _ (.agg #[.int .i64 a, .int .i64 b, .int .i64 c, .int .i64 ex, .int .i64 cl, .slice (some ⟨g, 0, none⟩) xs.length c5]) ⟨a, b, c, ex, cl, .slice (some ⟨g, 0, none⟩) xs.length c5, xs.set j ⟨.slice A8 dat.length c8, dat, lb⟩⟩) := Lib.hid ⟨rfl, by unfold inW; simp only; omega, hxs⟩
        have HD := Lib.hid hDc
        have H7 := Lib.hid k7
        have H3 := Lib.hid k3
        have HB := Lib.hid hBc
        have HM1 : Hid (mayD ⟨a, b, c, ex, cl, .slice (some ⟨g, 0, none⟩) xs.length c5, xs.set j ⟨.slice A8 dat.length c8, dat, lb⟩⟩ = false) := Lib.hid (may_spoilt (d := ⟨a, b, c, ex, cl, .slice A xs.length k, xs⟩) (j := j) (by simp only; omega) rfl rfl rfl rfl rfl HONE.out)
        have HS1 : Hid (sameD ⟨a, b, c, ex, cl, .slice A xs.length k, xs⟩ ⟨a, b, c, ex, cl, .slice (some ⟨g, 0, none⟩) xs.length c5, xs.set j ⟨.slice A8 dat.length c8, dat, lb⟩⟩ = false) := Lib.hid (same_spoilt (j := j) HX.out rfl HSM.out)
        generalize (DatV.mk a b c ex cl (.slice (some ⟨g, 0, none⟩) xs.length c5) (xs.set j ⟨.slice A8 dat.length c8, dat, lb⟩)) = d1 at HE HM1 HS1
        have HS0 : Hid (sameD ⟨a, b, c, ex, cl, .slice A xs.length k, xs⟩ ⟨a, b, c, ex, cl, .slice A xs.length k, xs⟩ = true) := Lib.hid (same_self _)
        clear hoff how hok2 hDc k7 k3 hBc hxs HONE HSM HOK K7c K3c OWc Dc HBc HX H1 OX HO
        generalize ((wc.setCell ⟨g, j * 2, none⟩ (.slice A8 dat.length c8)).setCell ⟨g, j * 2 + 1, none⟩ (.int .i64 lb)) = w8 at HE HD H7 H3 HB ⊢
        have l87 := H7.out.lt
        have l83 := H3.out.lt
        have s8 := HB.out.size
        have m0 := H7.out.cell 0
        have m1 := H7.out.cell 1
        have m2 := H7.out.cell 2
        have m3 := H7.out.cell 3
        have m4 := H7.out.cell 4
        have m5 := H7.out.cell 5
        simp only [List.getElem?_cons_zero, List.getElem?_cons_succ] at m0 m1 m2 m3 m4 m5
        have n0 := H3.out.cell 0
        have n1 := H3.out.cell 1
        have n2 := H3.out.cell 2
        have n3 := H3.out.cell 3
        have n4 := H3.out.cell 4
        have n5 := H3.out.cell 5
        simp only [List.getElem?_cons_zero, List.getElem?_cons_succ] at n0 n1 n2 n3 n4 n5
        go_wp2_with fail
        refine (denc_any _ d1 w8 w8.heap.size (Nat.le_refl _) HE.out).mono ?_
        clear m0 m1 m2 m3 m4 m5 n0 n1 n2 n3 n4 n5
        rintro en w9 ⟨hb, ⟨_, rfl⟩ | ⟨hm, _⟩⟩
        case inr => rw [HM1.out] at hm; cases hm
        have HB9 := Lib.hid (HB.out.trans (hb.mono s8))
        have s9 := HB9.out.size
        have z9 := hb.size
        have E9 := Lib.hid (HE.out.below hb)
        have D9 := Lib.hid (HD.out.below (hb.mono s8))
        have J9 := Lib.hid (H7.out.below hb l87)
        have K9 := Lib.hid (H3.out.below hb l83)
        have j9 := J9.out.lt
        have k9 := K9.out.lt
        have m0 := J9.out.cell 0
        have m1 := J9.out.cell 1
        have m2 := J9.out.cell 2
        have m3 := J9.out.cell 3
        have m4 := J9.out.cell 4
        have m5 := J9.out.cell 5
        simp only [List.getElem?_cons_zero, List.getElem?_cons_succ] at m0 m1 m2 m3 m4 m5
        have n0 := K9.out.cell 0
        have n1 := K9.out.cell 1
        have n2 := K9.out.cell 2
        have n3 := K9.out.cell 3
        have n4 := K9.out.cell 4
        have n5 := K9.out.cell 5
        simp only [List.getElem?_cons_zero, List.getElem?_cons_succ] at n0 n1 n2 n3 n4 n5
        clear hb HE HD H7 H3 HB
        go_wp2_with fail
        refine (dmay_any _ d1 w9 w8.heap.size z9 E9.out false HM1.out).mono ?_
        clear m0 m1 m2 m3 m4 m5 n0 n1 n2 n3 n4 n5
        rintro en w10 ⟨rfl, hb⟩
        have HB10 := Lib.hid (HB9.out.trans (hb.mono s9))
        have s10 := HB10.out.size
        have z10 := hb.size
        have E10 := Lib.hid (E9.out.below (hb.mono z9))
        have D10 := Lib.hid (D9.out.below (hb.mono s9))
        have J10 := Lib.hid (J9.out.below hb j9)
        have K10 := Lib.hid (K9.out.below hb k9)
        have j10 := J10.out.lt
        have k10 := K10.out.lt
        have m0 := J10.out.cell 0
        have m1 := J10.out.cell 1
        have m2 := J10.out.cell 2
        have m3 := J10.out.cell 3
        have m4 := J10.out.cell 4
        have m5 := J10.out.cell 5
        simp only [List.getElem?_cons_zero, List.getElem?_cons_succ] at m0 m1 m2 m3 m4 m5
        have n0 := K10.out.cell 0
        have n1 := K10.out.cell 1
        have n2 := K10.out.cell 2
        have n3 := K10.out.cell 3
        have n4 := K10.out.cell 4
        have n5 := K10.out.cell 5
        simp only [List.getElem?_cons_zero, List.getElem?_cons_succ] at n0 n1 n2 n3 n4 n5
        clear hb E9 D9 J9 K9 HB9
        go_wp2_with fail
        refine (dsame_any _ _ ⟨a, b, c, ex, cl, .slice A xs.length k, xs⟩ d1 w10 w8.heap.size (by omega) (D10.out.more s8) E10.out).mono ?_
        rw [HS1.out]
        clear m0 m1 m2 m3 m4 m5 n0 n1 n2 n3 n4 n5
        rintro en w11 ⟨rfl, hb⟩
        have HB11 := Lib.hid (HB10.out.trans (hb.mono s10))
        have s11 := HB11.out.size
        have z11 := hb.size
        have D11 := Lib.hid (D10.out.below (hb.mono s10))
        have K11 := Lib.hid (K10.out.below hb k10)
        have k11 := K11.out.lt
        have n0 := K11.out.cell 0
        have n1 := K11.out.cell 1
        have n2 := K11.out.cell 2
        have n3 := K11.out.cell 3
        have n4 := K11.out.cell 4
        have n5 := K11.out.cell 5
        simp only [List.getElem?_cons_zero, List.getElem?_cons_succ] at n0 n1 n2 n3 n4 n5
        clear hb E10 D10 J10 K10 HB10
        go_wp2_with fail
        refine (dsame_any _ _ ⟨a, b, c, ex, cl, .slice A xs.length k, xs⟩ ⟨a, b, c, ex, cl, .slice A xs.length k, xs⟩ w11 w.heap.size s11 D11.out D11.out).mono ?_
        rw [HS0.out]
        clear n0 n1 n2 n3 n4 n5
        rintro en w12 ⟨rfl, hb⟩
        have HB12 := Lib.hid (HB11.out.trans (hb.mono s11))
        have s12 := HB12.out.size
        clear hb D11 K11 HB11 HS0 HS1 HM1 HM
        go_wp2_with (go_at_call 17; refine (awake22_any _).mono ?_; rintro en w' ⟨rfl, hb9⟩)
        go_ret
        exact ⟨rfl, HB12.out.trans (hb9.mono s12)⟩
end Go.Proofs.Ytfhlailhcfjjaaa
