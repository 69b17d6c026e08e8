/- Contract of params.made. -/
import Derived.Test.YtkileiikffomlaaParMem
import Derived.Test.YtkileiikffomlaaBelow
import Derived.Deep.RegionHeld3
import Derived.Deep.DrawnRows
import Derived.StillTailTactics
namespace Go.Proofs.Ytkileiikffomlaa
open Go.RowKit
set_option linter.unusedVariables false
set_option linter.unusedSimpArgs false

/-- the numbers of a layer at first -/
def madeL (seed layer : Int) (n : Nat) : List Int := (List.range n).map (fun (i : Nat) => belowI seed layer (i : Int) 63 - 31)
theorem madeL_len (seed layer : Int) (n : Nat) : (madeL seed layer n).length = n := by simp [madeL]
theorem madeL_at (seed layer : Int) (n k : Nat) (h : k < n) : (madeL seed layer n)[k]? = some (belowI seed layer (k : Int) 63 - 31) := by simp [madeL, h]
theorem below63 (s t i : Int) : 0 ≤ belowI s t i 63 ∧ belowI s t i 63 < 63 := by
  exact ⟨belowI_lo s t i 63, belowI_hi s t i 63 (by omega)⟩
theorem madeL_in (seed layer : Int) (n : Nat) : ∀ x ∈ madeL seed layer n, -31 ≤ x ∧ x ≤ 31 := by
  intro x hx
  obtain ⟨i, _, rfl⟩ := List.mem_map.1 hx
  have := below63 seed layer (i : Int)
  omega
/-- a layer's weights at first -/
def madeC (d : List Int) (n seed layer : Int) : ParC := ⟨d, -7, madeL seed layer (sizeI d).toNat, List.replicate (sizeI d).toNat 0, [n], -7, List.replicate n.toNat 0⟩
def ParV.agg (p : ParV) : Value := .agg #[p.wd, .int .i64 p.c.we, p.wx, p.mv, p.bd, .int .i64 p.c.be, p.bx]
def MadeOf (w : World) (c : ParC) (en : Ending) (w' : World) : Prop :=
  ∃ p : ParV, en = .returned p.agg ∧ p.c = c ∧ p.In (fun g => w.heap.size ≤ g) w' ∧ Below w.heap.size w w'
theorem elem_i32z : ElemOf Try.prog 58 21 (.int .i32 0) 4 := ⟨Try.underlying58, by kernel_rfl, rfl⟩
theorem wrap_i8z (z : Int) (h0 : -128 ≤ z) (h1 : z ≤ 127) : IntKind.i8.wrap z = z := by
  unfold IntKind.wrap
  simp only [IntKind.bits, IntKind.signed]
  simp
  omega
theorem wrap_u64z (z : Int) (h0 : 0 ≤ z) (h1 : z < 18446744073709551616) : IntKind.u64.wrap z = z := by
  unfold IntKind.wrap
  simp only [IntKind.bits, IntKind.signed]
  simp
  omega
theorem set_nextM {xs la : List Int} {k : Nat} {v : Int} (h : xs.take k = la.take k) (hv : la[k]? = some v) (hl : xs.length = la.length) : (xs.set k v).take (k + 1) = la.take (k + 1) := by
  have hk := (List.getElem?_eq_some_iff.1 hv).1
  rw [List.take_add_one, List.take_add_one, hv]
  rw [List.take_set_of_le (Nat.le_refl k), h]
  congr 1
  rw [List.getElem?_set_self (by omega)]
set_option maxHeartbeats 3200000 in
set_option maxRecDepth 100000 in
theorem made_any (d : List Int) (n seed layer : Int) (v : Value) (N nn : Nat) (w : World) (B : Nat) (hB : B ≤ w.heap.size) (h : Reads w B v (ints .i64 d)) (hd : ∀ x ∈ d, -9223372036854775808 ≤ x ∧ x ≤ 9223372036854775807) (hs : sizeI d = N) (hN : 0 < N) (hnn : n = nn) (hn1 : 1 ≤ nn) (hn2 : nn ≤ 4096)
    (s0 : 0 ≤ seed) (s1 : seed < 18446744073709551616) (l0 : 0 ≤ layer) (l1 : layer ≤ 1000) :
    Calls Try.prog 46 #[v, .int .i64 n, .int .u64 seed, .int .i64 layer] w (MadeOf w (madeC d n seed layer)) := by
  have hbd := sizeI_bound d
  obtain ⟨A0, c0, rfl, _, _⟩ := h.form
  rw [length_ints] at *
  have hN8 : N ≤ 8192 := by omega
  have hd4 := (sizeI_len (d := d) (by omega)).2
  have HC : Hid (madeC d n seed layer = ⟨d, -7, madeL seed layer N, List.replicate N 0, [n], -7, List.replicate nn 0⟩) := Lib.hid (by
    unfold madeC
    rw [hs, hnn]
    rfl)
  have HN := Lib.hid hnn
  have hni : 0 ≤ n ∧ n ≤ 4096 := by omega
  have hS1 : sizeI [n] = nn := by rw [sizeI_one (by omega) (by omega)]; exact hnn
  have hb0 := (Below.refl w.heap.size w).alloc (Nat.le_refl _) (.cells #[.slice none 0 0, .int .i64 0, .slice none 0 0, .slice none 0 0, .slice none 0 0, .int .i64 0, .slice none 0 0] 60)
  have HZ1 := Lib.hid (tzero_any d (-7) _ N (w.alloc (.cells #[.slice none 0 0, .int .i64 0, .slice none 0 0, .slice none 0 0, .slice none 0 0, .int .i64 0, .slice none 0 0] 60)) B (by simp; omega) (h.below (hb0.mono hB)) hd hs hN (by omega) (by omega))
  have HK0 := Lib.hid (Blk.fresh w 60 [.slice none 0 0, .int .i64 0, .slice none 0 0, .slice none 0 0, .slice none 0 0, .int .i64 0, .slice none 0 0])
  have HB0 := Lib.hid hb0
  have HS1 := Lib.hid hS1
  have HD := Lib.hid hd
  have hmk : ∀ W : World, (Instr.makeSlice 58 (.int .i64 (N : Int)) (.int .i64 (N : Int))).run Try.prog W = .ok (.slice (some ⟨W.heap.size, 0, none⟩) N N) (W.alloc (.cells (zerosA (.int .i32 0) N) 21)) := by
    intro W
    obtain ⟨i, hi, hz, hs, hb2⟩ := info_parts elem_i32z.info
    exact run_make1 58 21 i _ elem_i32z.und hi hz hs rfl .i64 .i64 N (by rw [hb2]; omega) (by omega) W
  have HMK := Lib.hid hmk
  clear h hd hs hb0 hS1 hbd hmk hnn
  go_enter Try.func46, Try.ntmps46
  go_wp2_with fail
  refine HZ1.out.mono ?_
  rintro en w1 ⟨A, c, g, rfl, hg, hr1, hrl1, hk1, hb1⟩
  have HR1 := Lib.hid hr1
  have HRL1 := Lib.hid hrl1
  have HK1 := Lib.hid hk1
  have HB1 := Lib.hid (HB0.out.trans (hb1.mono (by simp)))
  have HP1 := Lib.hid (HK0.out.below hb1 (by simp))
  have hg1 : w.heap.size + 1 ≤ g := by simpa using hg
  have hg2 := hk1.lt
  clear hr1 hrl1 hk1 hb1 HZ1 HK0 HB0 hg
  go_wp2_with fail
  have hrn : Reads ((w1.alloc (.cells #[.slice A d.length c, .int .i64 (-7), .slice (some ⟨g, 0, none⟩) N N] 57)).alloc (.cells #[.int .i64 n] 3)) (w1.heap.size + 2) (.slice (some ⟨w1.heap.size + 1, 0, none⟩) 1 1) (ints .i64 [n]) := by
    have h2 := (Blk.fresh (w1.alloc (.cells #[.slice A d.length c, .int .i64 (-7), .slice (some ⟨g, 0, none⟩) N N] 57)) 3 (ints .i64 [n])).reads (n := 1) rfl (by unfold maxLen; omega)
    simp only [World.size_alloc] at h2
    exact h2
  have HT9 := Lib.hid ((Blk.fresh w1 57 [.slice A d.length c, .int .i64 (-7), .slice (some ⟨g, 0, none⟩) N N]).alloc (.cells #[.int .i64 n] 3))
  have hb2 := ((Below.refl w1.heap.size w1).alloc (Nat.le_refl _) (.cells #[.slice A d.length c, .int .i64 (-7), .slice (some ⟨g, 0, none⟩) N N] 57)).alloc (by simp) (.cells #[.int .i64 n] 3)
  have HZ2 := Lib.hid (tzero_any [n] (-7) _ nn _ (w1.heap.size + 2) (by simp) hrn (by intro x hx; simp at hx; omega) HS1.out (by omega) (by omega) (by omega))
  have HB2 := Lib.hid hb2
  clear hrn hb2
  refine HZ2.out.mono ?_
  rintro en w2 ⟨A', c', g', rfl, hg', hr2, hrl2, hk2, hb2⟩
  have hsz : ((w1.alloc (.cells #[.slice A d.length c, .int .i64 (-7), .slice (some ⟨g, 0, none⟩) N N] 57)).alloc (.cells #[.int .i64 n] 3)).heap.size = w1.heap.size + 2 := by simp
  rw [hsz] at hg' hb2 hr2
  have HRL2 := Lib.hid hrl2
  have hg2' := hk2.lt
  have hbx := HB2.out.trans (hb2.mono (by omega))
  have HP2 := Lib.hid (HP1.out.below hbx HP1.out.lt)
  have HT2 := Lib.hid (HT9.out.below hb2 (by omega))
  have HR12 := Lib.hid (own_off HR1.out (Off.of_below (S := fun _ => False) hbx (fun i hi => .inr hi)) (fun k hk => id))
  have HK12 := Lib.hid (HK1.out.below hbx hg2)
  have HB12 := Lib.hid (HB1.out.trans (hbx.mono HB1.out.size))
  have HR22 := Lib.hid hr2
  have HK22 := Lib.hid hk2
  clear hr2 hrl2 hk2 hb2 hbx hsz HZ2 HT9 HB2 HP1 HR1 HK1 HB1
  simp only [List.length_cons, List.length_nil, Nat.zero_add] at *
  have a9 := (HT2.out.alloc (.cells #[.slice A' 1 c', .int .i64 (-7), .slice (some ⟨g', 0, none⟩) nn nn] 57)).cell 2
  simp only [List.getElem?_cons_zero, List.getElem?_cons_succ] at a9
  go_wp2_with fail
  have HT3 := Lib.hid (HT2.out.alloc (.cells #[.slice A' 1 c', .int .i64 (-7), .slice (some ⟨g', 0, none⟩) nn nn] 57))
  have HU3 := Lib.hid (Blk.fresh w2 57 [.slice A' 1 c', .int .i64 (-7), .slice (some ⟨g', 0, none⟩) nn nn])
  have HP3 := Lib.hid (HP2.out.alloc (.cells #[.slice A' 1 c', .int .i64 (-7), .slice (some ⟨g', 0, none⟩) nn nn] 57))
  have HR3 := Lib.hid (own_off HR12.out ((Off.refl (fun _ => False) _).alloc (.cells #[.slice A' 1 c', .int .i64 (-7), .slice (some ⟨g', 0, none⟩) nn nn] 57)) (fun k hk => id))
  have HRb := Lib.hid (own_off HR22.out ((Off.refl (fun _ => False) _).alloc (.cells #[.slice A' 1 c', .int .i64 (-7), .slice (some ⟨g', 0, none⟩) nn nn] 57)) (fun k hk => id))
  have HKg := Lib.hid (HK12.out.alloc (.cells #[.slice A' 1 c', .int .i64 (-7), .slice (some ⟨g', 0, none⟩) nn nn] 57))
  have HKb := Lib.hid (HK22.out.alloc (.cells #[.slice A' 1 c', .int .i64 (-7), .slice (some ⟨g', 0, none⟩) nn nn] 57))
  have HB3 := Lib.hid (HB12.out.alloc (by have := HB12.out.size; omega) (.cells #[.slice A' 1 c', .int .i64 (-7), .slice (some ⟨g', 0, none⟩) nn nn] 57))
  have hs3 : (w2.alloc (.cells #[.slice A' 1 c', .int .i64 (-7), .slice (some ⟨g', 0, none⟩) nn nn] 57)).heap.size = w2.heap.size + 1 := by simp
  clear HT2 HP2 HR12 HR22 HK12 HK22 HB12 a9
  generalize (w2.alloc (.cells #[.slice A' 1 c', .int .i64 (-7), .slice (some ⟨g', 0, none⟩) nn nn] 57)) = wb at HT3 HU3 HP3 HR3 HRb HKg HKb HB3 hs3 ⊢
  go_loopw [28] (fun i wr => ∃ (k : Nat) (xs : List Int), k ≤ N ∧ i = .int .i64 k ∧ Hid (xs.length = N) ∧ Hid (xs.take k = (madeL seed layer N).take k) ∧ Hid (Blk wr g 61 (ints .i8 xs)) ∧ Hid (Off (fun i => i = g) wb wr)) (fun i _ => N - (intOf i).toNat)
  case atStart => exact ⟨0, List.replicate N 0, by omega, rfl, Lib.hid (by simp), Lib.hid (by simp), HKg, Lib.hid (Off.refl _ _)⟩
  case round =>
    obtain ⟨k, xs, hk, rfl, HXL, HTK, HX, HO⟩ := hrel
    by_cases hlt : k < N
    · have hkx : (ints .i8 xs)[k]? = some (.int .i8 (xs[k]'(by have := HXL.out; omega))) := ints_at _ _ _ (by have := HXL.out; omega)
      have hc1 := (HX.out.cell k).trans hkx
      have hf1 := HX.out.free k
      have hc9 := (HO.out.cell (p := ⟨w1.heap.size, 2, none⟩) (by show w1.heap.size < wb.heap.size; omega) (by show ¬ w1.heap.size = g; omega)).trans (HT3.out.cell 2)
      simp only [List.getElem?_cons_zero, List.getElem?_cons_succ] at hc9
      obtain ⟨z, hz⟩ : ∃ z, belowI seed layer (k : Int) 63 = z + 31 := ⟨belowI seed layer (k : Int) 63 - 31, (Int.sub_add_cancel _ _).symm⟩
      have hz2 := below63 seed layer (k : Int)
      have hbl := below_any seed layer (k : Int) 63 (by omega) (by omega) (by omega) (by omega) (by omega) (by omega)
      rw [hz] at hz2 hbl
      have hla := madeL_at seed layer N k hlt
      rw [hz, show z + 31 - 31 = z by omega] at hla
      have HLA := Lib.hid hla
      have HBL := Lib.hid hbl
      have zz : -31 ≤ z ∧ z ≤ 31 := by omega
      obtain ⟨zz1, zz2⟩ := zz
      have e1 : IntKind.i64.wrap z = z := IntWalk.i64_in _ (by omega)
      have e2 : IntKind.i8.wrap z = z := wrap_i8z z (by omega) (by omega)
      have e3 : IntKind.u64.wrap layer = layer := wrap_u64z layer (by omega) (by omega)
      have e4 : IntKind.u64.wrap (k : Int) = (k : Int) := wrap_u64z _ (by omega) (by omega)
      have i0 : 0 ≤ (k : Int) := by omega
      have i1 : (k : Int) < (N : Int) := by omega
      clear hz hz2 hbl hla hkx
      go_wp2_with fail
      refine wp_region_held_drew (S := ((fun w' => w'.cell? ⟨w1.heap.size, 2, none⟩ = some (.slice (some ⟨g, 0, none⟩) N N)))) (by kernel_rfl) (hc9) (fun hHeld => ?_)
      refine' wpAnyH_take (i := 0) (v := _) rfl (by kernel_rfl) (by kernel_rfl) (by kernel_rfl) (fun _ _ _ h => h) (Or.inl ⟨by rfl, ?taq1⟩) (by assumption) ?tbq1
      case taq1 =>
        intro wS hSw
        (try dsimp only at hSw)
        go_simp
        (try (with_reducible rfl))
      (try simp only [List.getElem_toArray, List.getElem_cons_zero, List.getElem_cons_succ, Act.put, List.setIfInBounds_toArray, List.set_cons_zero, List.set_cons_succ])
      refine' wpAnyH_take (i := 1) (v := _) rfl (by kernel_rfl) (by kernel_rfl) (by kernel_rfl) (fun _ _ _ h => h) (Or.inl ⟨by rfl, ?taq2⟩) (by assumption) ?tbq2
      case taq2 =>
        intro wS hSw
        (try dsimp only at hSw)
        go_simp
        (try (with_reducible rfl))
      (try simp only [List.getElem_toArray, List.getElem_cons_zero, List.getElem_cons_succ, Act.put, List.setIfInBounds_toArray, List.set_cons_zero, List.set_cons_succ])
      refine' wpAnyH_take (i := 2) (v := _) rfl (by kernel_rfl) (by kernel_rfl) (by kernel_rfl) (fun _ _ _ h => h) (Or.inl ⟨by rfl, ?taq3⟩) (by assumption) ?tbq3
      case taq3 =>
        intro wS hSw
        (try dsimp only at hSw)
        go_simp
        (try (with_reducible rfl))
      (try simp only [List.getElem_toArray, List.getElem_cons_zero, List.getElem_cons_succ, Act.put, List.setIfInBounds_toArray, List.set_cons_zero, List.set_cons_succ])
      refine' wpAnyH_take (i := 3) (v := _) rfl (by kernel_rfl) (by kernel_rfl) (by kernel_rfl) (fun _ _ _ h => h) (Or.inl ⟨by rfl, ?taq4⟩) (by assumption) ?tbq4
      case taq4 =>
        intro wS hSw
        (try dsimp only at hSw)
        go_simp
        (try (with_reducible rfl))
      (try simp only [List.getElem_toArray, List.getElem_cons_zero, List.getElem_cons_succ, Act.put, List.setIfInBounds_toArray, List.set_cons_zero, List.set_cons_succ])
      refine' wpAnyH_take (i := 4) (v := _) rfl (by kernel_rfl) (by kernel_rfl) (by kernel_rfl) (fun _ _ _ h => h) (Or.inl ⟨by rfl, ?taq5⟩) (by assumption) ?tbq5
      case taq5 =>
        intro wS hSw
        (try dsimp only at hSw)
        go_simp
        (try (with_reducible rfl))
      (try simp only [List.getElem_toArray, List.getElem_cons_zero, List.getElem_cons_succ, Act.put, List.setIfInBounds_toArray, List.set_cons_zero, List.set_cons_succ])
      refine' wpAnyH_take (i := 5) (v := _) rfl (by kernel_rfl) (by kernel_rfl) (by kernel_rfl) (fun _ _ _ h => h) (Or.inl ⟨by rfl, ?taq6⟩) (by assumption) ?tbq6
      case taq6 =>
        intro wS hSw
        (try dsimp only at hSw)
        go_simp
        (try (with_reducible rfl))
      (try simp only [List.getElem_toArray, List.getElem_cons_zero, List.getElem_cons_succ, Act.put, List.setIfInBounds_toArray, List.set_cons_zero, List.set_cons_succ])
      refine' wpAnyH_take (i := 6) (v := _) rfl (by kernel_rfl) (by kernel_rfl) (by kernel_rfl) (fun _ _ _ h => h) (Or.inl ⟨by rfl, ?taq7⟩) (by assumption) ?tbq7
      case taq7 =>
        intro wS hSw
        (try dsimp only at hSw)
        go_simp
        (try (with_reducible rfl))
      (try simp only [List.getElem_toArray, List.getElem_cons_zero, List.getElem_cons_succ, Act.put, List.setIfInBounds_toArray, List.set_cons_zero, List.set_cons_succ])
      refine' wpAnyH_take (i := 7) (v := _) rfl (by kernel_rfl) (by kernel_rfl) (by kernel_rfl) (fun _ _ _ h => h) (Or.inl ⟨by rfl, ?taq8⟩) (by assumption) ?tbq8
      case taq8 =>
        intro wS hSw
        (try dsimp only at hSw)
        go_simp
        (try (with_reducible rfl))
      (try simp only [List.getElem_toArray, List.getElem_cons_zero, List.getElem_cons_succ, Act.put, List.setIfInBounds_toArray, List.set_cons_zero, List.set_cons_succ])
      refine wpAnyH_ready (rs := [8]) (by kernel_rfl) (by simp) ?_
      refine AllReadyH.cons rfl (fun K9 hK9 => ?_) AllReadyH.nil
      (try simp only [List.getElem_toArray, List.getElem_cons_zero, List.getElem_cons_succ])
      go_simp
      refine (HBL.out wr.drew).mono ?_
      rintro en w5 ⟨rfl, rfl⟩
      dsimp only
      refine hK9.out _ _ (hc9) (fun hHeld9 => ?_)
      clear hK9 K9
      (try simp only [List.getElem_toArray, List.getElem_cons_zero, List.getElem_cons_succ, Act.put, List.setIfInBounds_toArray, List.set_cons_zero, List.set_cons_succ])
      refine' wpAnyH_take (i := 9) (v := _) rfl (by kernel_rfl) (by kernel_rfl) (by kernel_rfl) (fun _ _ _ h => h) (Or.inl ⟨by rfl, ?taq9⟩) (by assumption) ?tbq9
      case taq9 =>
        intro wS hSw
        (try dsimp only at hSw)
        go_simp
        (try (with_reducible rfl))
      (try simp only [List.getElem_toArray, List.getElem_cons_zero, List.getElem_cons_succ, Act.put, List.setIfInBounds_toArray, List.set_cons_zero, List.set_cons_succ])
      refine' wpAnyH_take (i := 10) (v := _) rfl (by kernel_rfl) (by kernel_rfl) (by kernel_rfl) (fun _ _ _ h => h) (Or.inl ⟨by rfl, ?taq10⟩) (by assumption) ?tbq10
      case taq10 =>
        intro wS hSw
        (try dsimp only at hSw)
        go_simp
        (try (with_reducible rfl))
      (try simp only [List.getElem_toArray, List.getElem_cons_zero, List.getElem_cons_succ, Act.put, List.setIfInBounds_toArray, List.set_cons_zero, List.set_cons_succ])
      refine' wpAnyH_take (i := 11) (v := _) rfl (by kernel_rfl) (by kernel_rfl) (by kernel_rfl) (fun _ _ _ h => h) (Or.inl ⟨by rfl, ?taq11⟩) (by assumption) ?tbq11
      case taq11 =>
        intro wS hSw
        (try dsimp only at hSw)
        go_simp
        (try (with_reducible rfl))
      (try simp only [List.getElem_toArray, List.getElem_cons_zero, List.getElem_cons_succ, Act.put, List.setIfInBounds_toArray, List.set_cons_zero, List.set_cons_succ])
      refine wpAnyH_ready (rs := [12]) (by kernel_rfl) (by simp) ?_
      refine AllReadyH.cons rfl (fun K9 hK9 => ?_) AllReadyH.nil
      (try simp only [List.getElem_toArray, List.getElem_cons_zero, List.getElem_cons_succ])
      go_simp
      have HO2 := Lib.hid (HO.out.setCell (p := ⟨g, k, none⟩) (.inl rfl) (.int .i8 z))
      have hc8 := (HO2.out.cell (p := ⟨w1.heap.size, 2, none⟩) (by show w1.heap.size < wb.heap.size; omega) (by show ¬ w1.heap.size = g; omega)).trans (HT3.out.cell 2)
      simp only [List.getElem?_cons_zero, List.getElem?_cons_succ] at hc8
      refine hK9.out _ _ (hc8) (fun hHeld9 => ?_)
      clear hK9 K9
      (try simp only [List.getElem_toArray, List.getElem_cons_zero, List.getElem_cons_succ, Act.put, List.setIfInBounds_toArray, List.set_cons_zero, List.set_cons_succ])
      refine wpAnyH_done (by kernel_rfl) ?_ _
      go_wp2_with fail
      have hx2 := HX.out.put k (.int .i8 z)
      rw [ints_set] at hx2
      go_roundw
      case rel => exact ⟨k + 1, xs.set k z, by omega, by go_num, Lib.hid (by rw [List.length_set]; exact HXL.out), Lib.hid (set_nextM HTK.out HLA.out (by rw [madeL_len]; exact HXL.out)), Lib.hid hx2.drew, Lib.hid HO2.out.drew⟩
      case measure => simp [intOf]; omega
    · obtain rfl : k = N := by omega
      have hxe : xs = madeL seed layer k := by
        have h1 := HTK.out
        rw [List.take_of_length_le (by have := HXL.out; omega), List.take_of_length_le (by rw [madeL_len]; omega)] at h1
        exact h1
      subst hxe
      have hT := HT3.out.off HO.out (show ¬ w1.heap.size = g by omega)
      have hU := HU3.out.off HO.out (show ¬ w2.heap.size = g by omega)
      have hP := HP3.out.off HO.out (show ¬ w.heap.size = g by omega)
      have hso := HO.out.size
      have HT := Lib.hid hT
      have HU := Lib.hid hU
      have HP := Lib.hid hP
      have hTl := hT.lt
      have hUl := hU.lt
      have hPl := hP.lt
      have a0 := HT.out.cell 0
      have a1 := HT.out.cell 1
      have a2 := HT.out.cell 2
      simp only [List.getElem?_cons_zero, List.getElem?_cons_succ] at a0 a1 a2
      have b0 := HU.out.cell 0
      have b1 := HU.out.cell 1
      have b2 := HU.out.cell 2
      simp only [List.getElem?_cons_zero, List.getElem?_cons_succ] at b0 b1 b2
      clear hT hU hP HXL HTK
      go_wp2_with fail
      refine wp_region_held_drew (S := ((fun w' => w'.cell? ⟨w1.heap.size, 0, none⟩ = some (.slice A d.length c) ∧ w'.cell? ⟨w1.heap.size, 1, none⟩ = some (.int .i64 (-7)) ∧ w'.cell? ⟨w1.heap.size, 2, none⟩ = some (.slice (some ⟨g, 0, none⟩) k k) ∧ w'.cell? ⟨w2.heap.size, 0, none⟩ = some (.slice A' 1 c') ∧ w'.cell? ⟨w2.heap.size, 1, none⟩ = some (.int .i64 (-7)) ∧ w'.cell? ⟨w2.heap.size, 2, none⟩ = some (.slice (some ⟨g', 0, none⟩) nn nn)))) (by kernel_rfl) (⟨a0, a1, a2, b0, b1, b2⟩) (fun hHeld => ?_)
      refine' wpAnyH_take (i := 0) (v := _) rfl (by kernel_rfl) (by kernel_rfl) (by kernel_rfl) (fun _ _ _ h => h) (Or.inl ⟨by rfl, ?taq12⟩) (by assumption) ?tbq12
      case taq12 =>
        intro wS hSw
        (try dsimp only at hSw)
        go_simp
        (try (with_reducible rfl))
      (try simp only [List.getElem_toArray, List.getElem_cons_zero, List.getElem_cons_succ, Act.put, List.setIfInBounds_toArray, List.set_cons_zero, List.set_cons_succ])
      refine' wpAnyH_take (i := 1) (v := _) rfl (by kernel_rfl) (by kernel_rfl) (by kernel_rfl) (fun _ _ _ h => h) (Or.inl ⟨by rfl, ?taq13⟩) (by assumption) ?tbq13
      case taq13 =>
        intro wS hSw
        (try dsimp only at hSw)
        go_simp
        (try (with_reducible rfl))
      (try simp only [List.getElem_toArray, List.getElem_cons_zero, List.getElem_cons_succ, Act.put, List.setIfInBounds_toArray, List.set_cons_zero, List.set_cons_succ])
      refine' wpAnyH_take (i := 2) (v := _) rfl (by kernel_rfl) (by kernel_rfl) (by kernel_rfl) (fun _ _ _ h => h) (Or.inl ⟨by rfl, ?taq14⟩) (by assumption) ?tbq14
      case taq14 =>
        intro wS hSw
        (try dsimp only at hSw)
        go_simp
        (try (with_reducible rfl))
      (try simp only [List.getElem_toArray, List.getElem_cons_zero, List.getElem_cons_succ, Act.put, List.setIfInBounds_toArray, List.set_cons_zero, List.set_cons_succ])
      refine' wpAnyH_take (i := 3) (v := _) rfl (by kernel_rfl) (by kernel_rfl) (by kernel_rfl) (fun _ _ _ h => h) (Or.inl ⟨by rfl, ?taq15⟩) (by assumption) ?tbq15
      case taq15 =>
        intro wS hSw
        (try dsimp only at hSw)
        go_simp
        (try (with_reducible rfl))
      (try simp only [List.getElem_toArray, List.getElem_cons_zero, List.getElem_cons_succ, Act.put, List.setIfInBounds_toArray, List.set_cons_zero, List.set_cons_succ])
      refine' wpAnyH_take (i := 5) (v := _) rfl (by kernel_rfl) (by kernel_rfl) (by kernel_rfl) (fun _ _ _ h => h) (Or.inl ⟨by rfl, ?taq16⟩) (by assumption) ?tbq16
      case taq16 =>
        intro wS hSw
        (try dsimp only at hSw)
        go_simp
        (try (with_reducible rfl))
      (try simp only [List.getElem_toArray, List.getElem_cons_zero, List.getElem_cons_succ, Act.put, List.setIfInBounds_toArray, List.set_cons_zero, List.set_cons_succ])
      have hmk := HMK.out
      refine wpAnyH_ready (rs := [4]) (by kernel_rfl) (by simp) ?_
      refine AllReadyH.cons rfl (fun K9 hK9 => ?_) AllReadyH.nil
      (try simp only [List.getElem_toArray, List.getElem_cons_zero, List.getElem_cons_succ])
      go_simp
      have hP4 := (HP.out.alloc (.cells (zerosA (.int .i32 0) k) 21)).drew
      have hM4 := (Blk.freshA wr 21 (zerosA (.int .i32 0) k)).drew
      rw [zerosA_toList, show List.replicate k (Value.int .i32 0) = ints .i32 (List.replicate k 0) by simp [ints]] at hM4
      have hO4 := ((Off.refl (fun i => i = w.heap.size) wr).alloc (.cells (zerosA (.int .i32 0) k) 21)).drew
      have a0' := (hO4.cell (p := ⟨w1.heap.size, 0, none⟩) hTl (show ¬ w1.heap.size = w.heap.size by omega)).trans a0
      have a1' := (hO4.cell (p := ⟨w1.heap.size, 1, none⟩) hTl (show ¬ w1.heap.size = w.heap.size by omega)).trans a1
      have a2' := (hO4.cell (p := ⟨w1.heap.size, 2, none⟩) hTl (show ¬ w1.heap.size = w.heap.size by omega)).trans a2
      have b0' := (hO4.cell (p := ⟨w2.heap.size, 0, none⟩) hUl (show ¬ w2.heap.size = w.heap.size by omega)).trans b0
      have b1' := (hO4.cell (p := ⟨w2.heap.size, 1, none⟩) hUl (show ¬ w2.heap.size = w.heap.size by omega)).trans b1
      have b2' := (hO4.cell (p := ⟨w2.heap.size, 2, none⟩) hUl (show ¬ w2.heap.size = w.heap.size by omega)).trans b2
      have HP4 := Lib.hid hP4
      have HM4 := Lib.hid hM4
      have HO4 := Lib.hid hO4
      have hpl4 := hP4.lt
      have hs4 : (wr.alloc (.cells (zerosA (.int .i32 0) k) 21)).drew.heap.size = wr.heap.size + 1 := by show (wr.alloc _).heap.size = _; simp
      clear a0 a1 a2 b0 b1 b2 hP4 hM4 hO4 hmk
      refine hK9.out _ _ (⟨a0', a1', a2', b0', b1', b2'⟩) (fun hHeld9 => ?_)
      clear hK9 K9
      (try simp only [List.getElem_toArray, List.getElem_cons_zero, List.getElem_cons_succ, Act.put, List.setIfInBounds_toArray, List.set_cons_zero, List.set_cons_succ])
      generalize (wr.alloc (.cells (zerosA (.int .i32 0) k) 21)).drew = wq at HP4 HM4 HO4 hpl4 hs4 a0' a1' a2' b0' b1' b2' hHeld9 ⊢
      refine' wpAnyH_take (i := 6) (v := _) rfl (by kernel_rfl) (by kernel_rfl) (by kernel_rfl) (fun _ _ _ h => h) (Or.inl ⟨by rfl, ?taq17⟩) (by assumption) ?tbq17
      case taq17 =>
        intro wS hSw
        (try dsimp only at hSw)
        go_simp
        (try (with_reducible rfl))
      (try simp only [List.getElem_toArray, List.getElem_cons_zero, List.getElem_cons_succ, Act.put, List.setIfInBounds_toArray, List.set_cons_zero, List.set_cons_succ])
      have m0 := HP4.out.cell 0
      have m1 := HP4.out.cell 1
      have m2 := HP4.out.cell 2
      have m3 := HP4.out.cell 3
      have m4 := HP4.out.cell 4
      have m5 := HP4.out.cell 5
      have m6 := HP4.out.cell 6
      simp only [List.getElem?_cons_zero, List.getElem?_cons_succ] at m0 m1 m2 m3 m4 m5 m6
      have f0 := HP4.out.free 0
      have f1 := HP4.out.free 1
      have f2 := HP4.out.free 2
      have f3 := HP4.out.free 3
      have f4 := HP4.out.free 4
      have f5 := HP4.out.free 5
      have f6 := HP4.out.free 6
      refine wpAnyH_ready (rs := [7]) (by kernel_rfl) (by simp) ?_
      refine AllReadyH.cons rfl (fun K9 hK9 => ?_) AllReadyH.nil
      (try simp only [List.getElem_toArray, List.getElem_cons_zero, List.getElem_cons_succ])
      go_simp
      have hq := seven_ok HP4.out (.slice A d.length c) (.int .i64 (-7)) (.slice (some ⟨g, 0, none⟩) k k) (.slice (some ⟨wr.heap.size, 0, none⟩) k k) (.slice A' 1 c') (.int .i64 (-7)) (.slice (some ⟨g', 0, none⟩) nn nn)
      have HQ := Lib.hid hq
      have hqo := hq.1
      unfold seven at hq
      have q0 := (hqo.cell (p := ⟨w1.heap.size, 0, none⟩) (by show w1.heap.size < wq.heap.size; omega) (show ¬ w1.heap.size = w.heap.size by omega)).trans a0'
      have q1 := (hqo.cell (p := ⟨w1.heap.size, 1, none⟩) (by show w1.heap.size < wq.heap.size; omega) (show ¬ w1.heap.size = w.heap.size by omega)).trans a1'
      have q2 := (hqo.cell (p := ⟨w1.heap.size, 2, none⟩) (by show w1.heap.size < wq.heap.size; omega) (show ¬ w1.heap.size = w.heap.size by omega)).trans a2'
      have q3 := (hqo.cell (p := ⟨w2.heap.size, 0, none⟩) (by show w2.heap.size < wq.heap.size; omega) (show ¬ w2.heap.size = w.heap.size by omega)).trans b0'
      have q4 := (hqo.cell (p := ⟨w2.heap.size, 1, none⟩) (by show w2.heap.size < wq.heap.size; omega) (show ¬ w2.heap.size = w.heap.size by omega)).trans b1'
      have q5 := (hqo.cell (p := ⟨w2.heap.size, 2, none⟩) (by show w2.heap.size < wq.heap.size; omega) (show ¬ w2.heap.size = w.heap.size by omega)).trans b2'
      refine hK9.out _ _ (⟨q0, q1, q2, q3, q4, q5⟩) (fun hHeld9 => ?_)
      clear hK9 K9
      (try simp only [List.getElem_toArray, List.getElem_cons_zero, List.getElem_cons_succ, Act.put, List.setIfInBounds_toArray, List.set_cons_zero, List.set_cons_succ])
      refine wpAnyH_done (by kernel_rfl) ?_ _
      go_wp2_with fail
      have hz := HQ.out
      unfold seven at hz
      have HZ := Lib.hid hz
      clear hq hqo hz HQ q0 q1 q2 q3 q4 q5 m0 m1 m2 m3 m4 m5 m6 f0 f1 f2 f3 f4 f5 f6 a0' a1' a2' b0' b1' b2' hHeld hHeld9
      have hk := HZ.out.2
      have r0 := hk.cell 0
      have r1 := hk.cell 1
      have r2 := hk.cell 2
      have r3 := hk.cell 3
      have r4 := hk.cell 4
      have r5 := hk.cell 5
      have r6 := hk.cell 6
      simp only [List.getElem?_cons_zero, List.getElem?_cons_succ] at r0 r1 r2 r3 r4 r5 r6
      refine bodyPost_ret (v := .agg #[.slice A d.length c, .int .i64 (-7), .slice (some ⟨g, 0, none⟩) k k, .slice (some ⟨wr.heap.size, 0, none⟩) k k, .slice A' 1 c', .int .i64 (-7), .slice (some ⟨g', 0, none⟩) nn nn]) (by simp [results, Try.results46, go_sem, World.cell?_drew, r0, r1, r2, r3, r4, r5, r6]) rfl ?_
      have hOf := HO4.out.trans HZ.out.1 (fun i hi => .inl hi)
      have hOg := Off.trans (S := fun i => i = g ∨ i = w.heap.size) (T := fun i => i = w.heap.size) (HO.out.mono (fun i hi => .inl (.inl hi))) hOf (fun i hi => .inl (.inr hi))
      have oA := own_off HR3.out hOg (fun k hk he => by have h1 := (HR3.out.lt k hk).1; have h2 := HRL1.out k hk; simp only [World.size_alloc] at h1; rcases he with he | he <;> omega)
      have oB := own_off HRb.out hOg (fun k hk he => by have h1 := (HRb.out.lt k hk).1; rcases he with he | he <;> omega)
      have kG := HX.out.off hOf (show ¬ g = w.heap.size by omega)
      have kB := HKb.out.off hOg (by rintro (h | h) <;> omega)
      have kM := HM4.out.off HZ.out.1 (show ¬ wr.heap.size = w.heap.size by omega)
      have hBf := HB3.out.trans (hOg.below HB3.out.size (fun i hi => by rcases hi with hi | hi <;> omega))
      clear HO HX HZ HP4 HM4 HO4 HT3 HU3 HP3 HR3 HRb HKg HKb HB3 HT HU HP hk r0 r1 r2 r3 r4 r5 r6 hOf hOg
      refine ⟨⟨.slice A d.length c, .slice (some ⟨g, 0, none⟩) k k, .slice (some ⟨wr.heap.size, 0, none⟩) k k, .slice A' 1 c', .slice (some ⟨g', 0, none⟩) nn nn, ⟨d, -7, madeL seed layer k, List.replicate k 0, [n], -7, List.replicate nn 0⟩⟩, rfl, HC.out.symm, ?_, hBf⟩
      exact ⟨RowS.of_own oA (fun k hk => by have := (oA.lt k hk).1; simp only [World.size_alloc] at this; omega), RowS.of_blk kG (by rw [length_ints, madeL_len]) (by unfold maxLen; omega) (by omega), RowS.of_blk kM (by rw [length_ints, List.length_replicate]) (by unfold maxLen; omega) (by omega),
        RowS.of_own oB (fun k hk => by have := (oB.lt k hk).1; omega), RowS.of_blk kB (by rw [length_ints, List.length_replicate]) (by unfold maxLen; omega) (by omega),
        ⟨HD, Lib.hid (fun x hx => by have := madeL_in seed layer k x hx; omega), by show (-9223372036854775808 : Int) ≤ -7; omega, by show (-7 : Int) ≤ 9223372036854775807; omega, Lib.hid (by intro x hx; have := List.eq_of_mem_replicate hx; omega),
        Lib.hid (by intro x hx; simp only [List.mem_singleton] at hx; omega), Lib.hid (by intro x hx; have := List.eq_of_mem_replicate hx; omega), by show (-9223372036854775808 : Int) ≤ -7; omega, by show (-7 : Int) ≤ 9223372036854775807; omega, by simp only [lenP, madeL_len, List.length_replicate, List.length_cons, List.length_nil]; omega⟩⟩
end Go.Proofs.Ytkileiikffomlaa
