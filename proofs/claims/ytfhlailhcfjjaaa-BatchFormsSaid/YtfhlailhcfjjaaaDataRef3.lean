/- Contracts of pedagogueref18.small, smalls, EncodeData. -/
import Derived.Test.YtfhlailhcfjjaaaDataRef2
import Derived.Test.YtfhlailhcfjjaaaRefU
import Derived.Test.YtfhlailhcfjjaaaDataEnc
import Derived.Test.YtfhlailhcfjjaaaWalkDataBack
import Derived.Deep.RegionHeld3
import Derived.Deep.DrawnRows
namespace Go.Proofs.Ytfhlailhcfjjaaa
open Go.RowKit
set_option linter.unusedVariables false
set_option linter.unusedSimpArgs false

theorem enc1_cell (n : Int) : bytesV (enc1 n) = [.int .u8 (IntKind.u8.wrap n)] := by
  unfold enc1 bytesV
  rw [show (1 : Nat) = 0 + 1 from rfl, beB_succ, beB_zero]
  simp only [List.nil_append, List.map_cons, List.map_nil, List.cons.injEq, and_true, Value.int.injEq, true_and]
  rw [IntKind.wrap_u64, IntKind.wrap_u8]
  simp
  omega
theorem flat_snoc {xs : List Int} {k : Nat} {x : Int} (h : xs[k]? = some x) : bytesV ((xs.take k).flatMap enc1) ++ [.int .u8 (IntKind.u8.wrap x)] = bytesV ((xs.take (k + 1)).flatMap enc1) := by
  rw [flat_take enc1 h, ← enc1_cell, bytesV_append]
set_option maxHeartbeats 1600000 in
theorem rsmall_any (xs : List Int) (v : Value) (w : World) (B : Nat) (hB : B ≤ w.heap.size) (h : Reads w B v (ints .i8 xs)) (hlen : xs.length ≤ 1048576) :
    Calls Try.prog 34 #[v] w (NewBytes w (xs.flatMap enc1)) := by
  obtain ⟨A, c, rfl, _, _⟩ := h.form
  rw [length_ints] at h
  have HR := Lib.hid h
  obtain ⟨n, hn⟩ : ∃ n, xs.length = n := ⟨_, rfl⟩
  rw [length_ints]
  rw [hn] at HR hlen ⊢
  have HN := Lib.hid hn
  clear h hn
  go_enter Try.func34, Try.ntmps34
  go_wp2
  go_loopw [3, 8] (fun v i wr => ∃ (k : Nat) (A' : Option Addr) (c' : Nat), k ≤ n ∧ i = .int .i64 k ∧ v = .slice A' k c' ∧ Hid (wr.ownsRow w.heap.size 5 1 (.slice A' k c') k (bytesV ((xs.take k).flatMap enc1))) ∧ Hid (Below w.heap.size w wr)) (fun _ i _ => n - (intOf i).toNat)
  case atStart => exact ⟨0, none, 0, by omega, rfl, rfl, Lib.hid (World.ownsRow_nil _ _ _ _), Lib.hid (Below.refl _ _)⟩
  case round =>
    obtain ⟨k, A', c', hk, rfl, rfl, hown, hbel⟩ := hrel
    by_cases hlt : k < n
    · obtain ⟨A', n', c', e', _, _, _, hat⟩ := HR.out.below (hbel.out.mono hB)
      injection e' with e1 e2 e3
      subst e1 e2 e3
      obtain ⟨g, o, rfl, hg, hx⟩ := hat.out (by omega)
      have hl := HN.out
      have c1 := hx k (.int .i8 xs[k]) (ints_at _ _ _ (by omega))
      obtain ⟨y, hy⟩ : ∃ y, xs[k] = y := ⟨_, rfl⟩
      rw [hy] at c1
      have HY := Lib.hid (flat_snoc (xs := xs) (k := k) (x := y) (by rw [List.getElem?_eq_getElem (by omega), hy]))
      have i1 : (0 : Int) ≤ (k : Int) := by omega
      have i2 : (k : Int) < (n : Int) := by omega
      have hbs := hbel.out.size
      clear hat hx hl hy HR
      go_wp2_with (at_builtin; refine wpList_extend elem_byte _ rfl (.tmp 12) (.tmp 15) rfl w.heap.size k _ _ rfl (hown.out.alloc _) _ _ [.int .u8 (IntKind.u8.wrap y)] rfl (Reads.one_ wr _ _) (by simp [Value.oneCell']) (by simp only [List.length_cons, List.length_nil, maxLen]; omega) (by simp only [List.length_cons, List.length_nil]; omega) (by rw [World.size_alloc]; omega) ?_; intro A9 c9 w9 hown9 hg9 hf9; simp only [List.length_cons, List.length_nil, Nat.zero_add] at hown9 ⊢)
      rw [HY.out] at hown9
      have HB9 := Lib.hid ((hbel.out.alloc hbs _).grown hg9 (by rw [World.size_alloc]; omega) (fun k hk => (hown.out.lt k hk).1))
      have HO9 := Lib.hid hown9
      clear hown9 hg9 hf9
      go_roundw
      case rel => exact ⟨k + 1, A9, c9, by omega, by go_num, rfl, HO9, HB9⟩
      case measure => simp [intOf]; omega
    · obtain rfl : k = n := by omega
      go_wp2
      go_ret
      refine ⟨A', c', ?_, ?_, hbel.out⟩
      · rw [length_flat1, HN.out]; rfl
      · have := hown.out
        rw [List.take_of_length_le (by have := HN.out; omega)] at this
        rw [length_flat1, HN.out]
        exact this
theorem enc5_cells (a b c d e : Int) : [Value.int .u8 (IntKind.u8.wrap a), .int .u8 (IntKind.u8.wrap b), .int .u8 (IntKind.u8.wrap c), .int .u8 (IntKind.u8.wrap d), .int .u8 (IntKind.u8.wrap e)] = bytesV ([a, b, c, d, e].flatMap enc1) := by
  simp only [List.flatMap_cons, List.flatMap_nil, ← bytesV_append, enc1_cell]
  rfl
theorem five_cells (W : World) (g : Nat) (t : TypeId) (cs : List Value) (hg : g = W.heap.size) : ∀ j u, cs[j]? = some u → (W.alloc (.cells cs.toArray t)).cell? ((⟨g, 0, none⟩ : Addr).add j) = some u := by
  subst hg
  intro j u hu
  rw [addr_add, Nat.zero_add, (Blk.fresh W t cs).cell]
  exact hu
theorem enc2_nat (n : Nat) (h : n ≤ 65535) : enc2 (n : Int) = beB n 2 := by
  unfold enc2
  rw [show (IntKind.u64.wrap (n : Int)).toNat = n by rw [IntKind.wrap_u64]; omega]
theorem encEx_next {xs : List ExV} {k : Nat} {e : ExV} {hd bs : List UInt8} (hk : xs[k]? = some e) (hb : bs = hd ++ (xs.take k).flatMap encEx) : (bs ++ enc1 e.label) ++ e.data.flatMap enc1 = hd ++ (xs.take (k + 1)).flatMap encEx := by
  rw [hb, flat_take encEx hk]
  unfold encEx
  simp only [List.append_assoc]
theorem Reads.cellAdd {w : World} {B g o n c : Nat} {xs : List Value} (h : Reads w B (.slice (some ⟨g, o, none⟩) n c) xs) : ∀ j u, xs[j]? = some u → w.cell? ((⟨g, o, none⟩ : Addr).add j) = some u := by
  intro j u hu
  obtain ⟨A, n', c', e, hl, _, _, hat⟩ := h
  injection e with e1 e2 e3
  subst e1 e2 e3
  have hj := (List.getElem?_eq_some_iff.1 hu).1
  obtain ⟨g', o', e, _, hx⟩ := hat.out (by omega)
  injection e with e
  injection e with e1 e2
  subst e1 e2
  rw [addr_add]
  exact hx j u hu
set_option maxRecDepth 100000 in
set_option maxHeartbeats 3200000 in
theorem rdenc_any (v : Value) (d : DatV) (w : World) (B : Nat) (hB : B ≤ w.heap.size) (h : DataOf w B v d) : Calls Try.prog 18 #[v] w (EncOf w d) := by
  obtain ⟨a, b, c, ex, cl, lv, xs⟩ := d
  have h0 := h
  obtain ⟨rfl, _, hx⟩ := h
  simp only at hx
  obtain ⟨A, k, rfl⟩ := hx.form
  have hlen := hx.len
  have HX := Lib.hid hx
  have hb0 := one_alloc w (.cells #[.int .i64 a, .int .i64 b, .int .i64 c, .int .i64 ex, .int .i64 cl, .slice A xs.length k] 33)
  have hk0 := Blk.fresh w 33 [.int .i64 a, .int .i64 b, .int .i64 c, .int .i64 ex, .int .i64 cl, .slice A xs.length k]
  obtain ⟨r, hr⟩ : ∃ r, mayD ⟨a, b, c, ex, cl, .slice A xs.length k, xs⟩ = r := ⟨_, rfl⟩
  have HM := Lib.hid (rmayd_any _ _ (w.alloc (.cells #[.int .i64 a, .int .i64 b, .int .i64 c, .int .i64 ex, .int .i64 cl, .slice A xs.length k] 33)) B (by have := hb0.size; omega) (h0.below (hb0.mono hB)) r hr)
  have HB := Lib.hid hb0
  have HK := Lib.hid hk0
  have HR := Lib.hid hr
  have hl := hk0.lt
  have hs := hb0.size
  clear h0 hx hb0 hk0 hr
  go_enter Try.func18, Try.ntmps18
  go_wp2_with fail
  generalize (w.alloc (.cells #[.int .i64 a, .int .i64 b, .int .i64 c, .int .i64 ex, .int .i64 cl, .slice A xs.length k] 33)) = w1 at HB HK HM hl hs ⊢
  refine HM.out.mono ?_
  rintro en w2 ⟨rfl, hw2⟩
  have HK2 := Lib.hid (HK.out.below hw2 hl)
  have HB2 := Lib.hid (HB.out.trans (hw2.mono hs))
  have s2 := HB2.out.size
  have l2 := HK2.out.lt
  clear HM HB HK hw2 hl hs
  cases r with
  | false =>
    go_wp2
    go_ret2
    exact ⟨HB2.out, .inl ⟨HR.out, rfl⟩⟩
  | true =>
    have hlens := mayD_lens HR.out
    simp only at hlens
    obtain ⟨n1, n2⟩ := hlens
    have N2 := Lib.hid n2
    have HU := Lib.hid (ru16b_any (xs.length : Int) xs.length (by rw [IntKind.wrap_u64]; omega) (by omega) (by omega))
    have H5 := Lib.hid (enc5_cells a b c ex cl)
    have m0 := HK2.out.cell 0
    have m1 := HK2.out.cell 1
    have m2 := HK2.out.cell 2
    have m3 := HK2.out.cell 3
    have m4 := HK2.out.cell 4
    have m5 := HK2.out.cell 5
    simp only [List.getElem?_cons_zero, List.getElem?_cons_succ] at m0 m1 m2 m3 m4 m5
    have e4 : [Value.int .u8 112, .int .u8 100, .int .u8 100, .int .u8 115] = bytesV [112, 100, 100, 115] := rfl
    have HE4 := Lib.hid e4
    have kc := Lib.run_convert_bytes_const (P := Try.prog) w2 34 5 #[.int .u8 112, .int .u8 100, .int .u8 100, .int .u8 115] 4 4 Try.underlying34 Try.underlying5
    have HRC := Lib.hid (reads_const w2 [112, 100, 100, 115] 5 (4, 5) #[.int .u8 112, .int .u8 100, .int .u8 100, .int .u8 115] 4 rfl rfl (by decide))
    simp only [List.size_toArray, List.length_cons, List.length_nil, Nat.zero_add, Nat.reduceAdd] at kc
    obtain ⟨i0, hi0, hz0, hs0, hy0⟩ := info_parts elem_byte.info
    have HI0 := Lib.hid hi0
    have HZ0 := Lib.hid hz0
    have HS0 := Lib.hid hs0
    have HY0 := Lib.hid hy0
    clear n2 e4 hi0 hz0 hs0 hy0
    go_wp2_with (at_builtin; refine wpList_append_grows _ rfl (.tmp 11) (.tmp 30) 34 rfl 5 i0 (.int .u8 0) 1 1 Try.underlying34 HI0.out HZ0.out HS0.out HY0.out rfl (by decide) (some ⟨w2.heap.size, 0, none⟩) 4 4 (bytesV [112, 100, 100, 115]) rfl (by intro h; cases h) rfl (fun b hb => by (injection hb with hb; subst hb; exact (HRC.out.alloc (by rw [World.size_alloc]; omega) _).cellAdd)) ⟨w2.heap.size + 1, 0, none⟩ 5 5 [.int .u8 (IntKind.u8.wrap a), .int .u8 (IntKind.u8.wrap b), .int .u8 (IntKind.u8.wrap c), .int .u8 (IntKind.u8.wrap ex), .int .u8 (IntKind.u8.wrap cl)] rfl rfl (five_cells _ _ _ [.int .u8 (IntKind.u8.wrap a), .int .u8 (IntKind.u8.wrap b), .int .u8 (IntKind.u8.wrap c), .int .u8 (IntKind.u8.wrap ex), .int .u8 (IntKind.u8.wrap cl)] (World.size_alloc _ _).symm) (by simp [Value.oneCell']) (by omega) (by unfold maxLen; omega) (by omega) ?_; intro v3 w3 hown3 hg3; have hk3 := ((HK2.out.alloc _).alloc _).grown hg3 (by simp); have m35 := hk3.cell 5; have l3 := hk3.lt; simp only [List.getElem?_cons_zero, List.getElem?_cons_succ] at m35)
    rw [H5.out, bytesV_append] at hown3
    simp only [Nat.reduceAdd] at hown3
    have HB3 := Lib.hid (((HB2.out.alloc s2 _).alloc (by rw [World.size_alloc]; omega) _).grown hg3 (by rw [World.size_alloc, World.size_alloc]; omega) (fun k hk => by simp at hk))
    have K3 := Lib.hid hk3
    obtain ⟨A3, c3, rfl⟩ := own_form hown3
    have O3 := Lib.hid (own_lower hown3 (show w.heap.size + 1 ≤ _ by rw [World.size_alloc, World.size_alloc]; omega))
    have s3 := HB3.out.size
    clear hown3 hg3 hk3 m0 m1 m2 m3 m4 m5 HB2 HK2 kc HRC HI0 HZ0 HS0 HY0
    refine (HU.out w3).mono ?_
    rintro en w4 ⟨A4, c4, rfl, hown4, hb4⟩
    have O4 := Lib.hid (own_bel3 O3.out hb4)
    have R4 := Lib.hid (Reads.of_own hown4)
    have HB4 := Lib.hid (HB3.out.trans (hb4.mono s3))
    have K4 := Lib.hid (K3.out.below hb4 l3)
    have s4 := HB4.out.size
    have l4 := K4.out.lt
    have L2 := Lib.hid (length_beB xs.length 2)
    clear hown4 hb4 O3 HB3 K3 m35 l3 s3 HU
    go_wp2_with (at_builtin; refine wpList_extend elem_byte _ rfl (.tmp 32) (.tmp 36) rfl (w.heap.size + 1) 9 _ _ rfl O4.out w4.heap.size _ (bytesV (beB xs.length 2)) rfl R4.out (bytesV_one _) (by rw [length_bytesV, L2.out]; unfold maxLen; omega) (by rw [length_bytesV, L2.out]; omega) l4 ?_; intro A5 c5 w5 hown5 hg5 hf5; have hk5 := K4.out.grown hg5 (by intro he; have := (O4.out.lt _ he.symm).1; omega); have m5 := hk5.cell 5; have l5 := hk5.lt; simp only [List.getElem?_cons_zero, List.getElem?_cons_succ] at m5; simp only [length_bytesV, L2.out] at hown5 ⊢)
    have HB5 := Lib.hid (HB4.out.grown hg5 s4 (fun k hk => by have := (O4.out.lt k hk).1; omega))
    have K5 := Lib.hid hk5
    have s5 := HB5.out.size
    rw [bytesV_append, ← enc2_nat _ (by omega)] at hown5
    have E5 := Lib.hid (show ([112, 100, 100, 115] ++ [a, b, c, ex, cl].flatMap enc1) ++ enc2 xs.length = encHead ⟨a, b, c, ex, cl, .slice A xs.length k, xs⟩ from rfl)
    have L5 := Lib.hid (length_encHead ⟨a, b, c, ex, cl, .slice A xs.length k, xs⟩)
    rw [E5.out] at hown5
    generalize encHead ⟨a, b, c, ex, cl, .slice A xs.length k, xs⟩ = hd at L5 E5 hown5
    have O5 := Lib.hid hown5
    clear hown5 hg5 hf5 hk5 O4 R4 L2 HB4 K4 m5
    go_loopw [4, 41] (fun v i wr => ∃ (j : Nat) (bs : List UInt8) (A' : Option Addr) (c' : Nat), j ≤ xs.length ∧ i = .int .i64 j ∧ v = .slice A' bs.length c' ∧ Hid (bs = hd ++ (xs.take j).flatMap encEx) ∧ bs.length ≤ 11 + j * 2049 ∧ Hid (wr.ownsRow (w.heap.size + 1) 5 1 (.slice A' bs.length c') bs.length (bytesV bs)) ∧ Hid (Below w.heap.size w wr)) (fun _ i _ => xs.length - (intOf i).toNat)
    case atStart => exact ⟨0, hd, A5, c5, by omega, rfl, by rw [L5.out], Lib.hid (by simp), by rw [L5.out]; omega, Lib.hid (by rw [L5.out]; exact O5.out), HB5⟩
    case round =>
      obtain ⟨j, bs, A', c', hj, rfl, rfl, hbs, hbl, hown, hbel⟩ := hrel
      have hbs0 := hbel.out.size
      by_cases hlt : j < xs.length
      · obtain ⟨g, o, c', e, e1, hlk, hok, hg, q0, q1⟩ := (HX.out.below (hbel.out.mono hB)).at_ hlt
        injection e1 with e1 _ e3
        subst e1 e3
        obtain ⟨Ad, cd, hdv, _, _⟩ := hok.rd.form
        have HLK := Lib.hid (encEx_next (hd := hd) (bs := bs) hlk hbs.out)
        have hdl := N2.out e (List.mem_of_getElem? hlk)
        have hlk0 := hlk
        obtain ⟨dv, data, lab⟩ := e
        simp only at hdv q0 q1 HLK hdl
        subst hdv
        rw [length_ints] at q0
        have hok1 := hok.rd
        simp only at hok1
        rw [length_ints] at hok1
        have a1 : g < wr.heap.size := by omega
        have i1 : (0 : Int) ≤ (j : Int) := by omega
        have i2 : (j : Int) < (xs.length : Int) := by omega
        have HD : Hid (∀ W, Below w.heap.size w W → Reads W B (.slice Ad data.length cd) (ints .i8 data)) := Lib.hid (fun W hW => by
          obtain ⟨g', o', c', e', _, hlk', hok', _⟩ := (HX.out.below (hW.mono hB)).at_ hlt
          rw [hlk0] at hlk'
          injection hlk' with hlk'
          subst hlk'
          have h9 := hok'.rd
          simp only at h9
          rw [length_ints] at h9
          exact h9)
        have k1 := Blk.fresh wr 45 [.slice Ad data.length cd, .int .i64 lab]
        have HB1 := Lib.hid (hbel.out.alloc hbs0 (.cells #[.slice Ad data.length cd, .int .i64 lab] 45))
        have O1 := Lib.hid (hown.out.alloc (.cells #[.slice Ad data.length cd, .int .i64 lab] 45))
        have lt1 := hown.out.lt
        have KX := Lib.hid k1
        clear hok hlk hbs hown hok1 k1 hlk0
        go_wp2_with fail
        generalize (wr.alloc (.cells #[.slice Ad data.length cd, .int .i64 lab] 45)) = wa at KX HB1 O1 ⊢
        obtain ⟨q, hq⟩ : ∃ q, wr.heap.size = q := ⟨_, rfl⟩
        rw [hq] at KX lt1 ⊢
        have sa := HB1.out.size
        have la := KX.out.lt
        refine wp_region_held_drew (S := ((fun w' => Blk w' q 45 [.slice Ad data.length cd, .int .i64 lab]))) (by kernel_rfl) (KX.out.drew) (fun hHeld => ?_)
        refine' wpAnyH_take (i := 0) (v := _) rfl (by kernel_rfl) (by kernel_rfl) (by kernel_rfl) (fun _ _ _ h => h) (Or.inl ⟨by rfl, ?taq1⟩) (by assumption) ?tbq1
        case taq1 =>
          intro wS hSw
          (try dsimp only at hSw)
          (have m0 := hSw.cell 0; have m1 := hSw.cell 1; simp only [List.getElem?_cons_zero, List.getElem?_cons_succ] at m0 m1; clear hSw; go_simp)
          (try (with_reducible rfl))
        (try simp only [List.getElem_toArray, List.getElem_cons_zero, List.getElem_cons_succ, Act.put, List.setIfInBounds_toArray, List.set_cons_zero, List.set_cons_succ])
        refine' wpAnyH_take (i := 1) (v := _) rfl (by kernel_rfl) (by kernel_rfl) (by kernel_rfl) (fun _ _ _ h => h) (Or.inl ⟨by rfl, ?taq2⟩) (by assumption) ?tbq2
        case taq2 =>
          intro wS hSw
          (try dsimp only at hSw)
          (have m0 := hSw.cell 0; have m1 := hSw.cell 1; simp only [List.getElem?_cons_zero, List.getElem?_cons_succ] at m0 m1; clear hSw; go_simp)
          (try (with_reducible rfl))
        (try simp only [List.getElem_toArray, List.getElem_cons_zero, List.getElem_cons_succ, Act.put, List.setIfInBounds_toArray, List.set_cons_zero, List.set_cons_succ])
        refine' wpAnyH_take (i := 2) (v := _) rfl (by kernel_rfl) (by kernel_rfl) (by kernel_rfl) (fun _ _ _ h => h) (Or.inl ⟨by rfl, ?taq3⟩) (by assumption) ?tbq3
        case taq3 =>
          intro wS hSw
          (try dsimp only at hSw)
          (have m0 := hSw.cell 0; have m1 := hSw.cell 1; simp only [List.getElem?_cons_zero, List.getElem?_cons_succ] at m0 m1; clear hSw; go_simp)
          (try (with_reducible rfl))
        (try simp only [List.getElem_toArray, List.getElem_cons_zero, List.getElem_cons_succ, Act.put, List.setIfInBounds_toArray, List.set_cons_zero, List.set_cons_succ])
        refine' wpAnyH_take (i := 3) (v := _) rfl (by kernel_rfl) (by kernel_rfl) (by kernel_rfl) (fun _ _ _ h => h) (Or.inl ⟨by rfl, ?taq4⟩) (by assumption) ?tbq4
        case taq4 =>
          intro wS hSw
          (try dsimp only at hSw)
          (have m0 := hSw.cell 0; have m1 := hSw.cell 1; simp only [List.getElem?_cons_zero, List.getElem?_cons_succ] at m0 m1; clear hSw; go_simp)
          (try (with_reducible rfl))
        (try simp only [List.getElem_toArray, List.getElem_cons_zero, List.getElem_cons_succ, Act.put, List.setIfInBounds_toArray, List.set_cons_zero, List.set_cons_succ])
        refine' wpAnyH_take (i := 6) (v := _) rfl (by kernel_rfl) (by kernel_rfl) (by kernel_rfl) (fun _ _ _ h => h) (Or.inl ⟨by rfl, ?taq5⟩) (by assumption) ?tbq5
        case taq5 =>
          intro wS hSw
          (try dsimp only at hSw)
          (have m0 := hSw.cell 0; have m1 := hSw.cell 1; simp only [List.getElem?_cons_zero, List.getElem?_cons_succ] at m0 m1; clear hSw; go_simp)
          (try (with_reducible rfl))
        (try simp only [List.getElem_toArray, List.getElem_cons_zero, List.getElem_cons_succ, Act.put, List.setIfInBounds_toArray, List.set_cons_zero, List.set_cons_succ])
        refine' wpAnyH_take (i := 7) (v := _) rfl (by kernel_rfl) (by kernel_rfl) (by kernel_rfl) (fun _ _ _ h => h) (Or.inl ⟨by rfl, ?taq6⟩) (by assumption) ?tbq6
        case taq6 =>
          intro wS hSw
          (try dsimp only at hSw)
          (have m0 := hSw.cell 0; have m1 := hSw.cell 1; simp only [List.getElem?_cons_zero, List.getElem?_cons_succ] at m0 m1; clear hSw; go_simp)
          (try (with_reducible rfl))
        (try simp only [List.getElem_toArray, List.getElem_cons_zero, List.getElem_cons_succ, Act.put, List.setIfInBounds_toArray, List.set_cons_zero, List.set_cons_succ])
        refine wpAnyH_ready (rs := [4]) (by kernel_rfl) (by simp) ?_
        refine AllReadyH.cons rfl (fun K9 hK9 => ?_) AllReadyH.nil
        (try simp only [List.getElem_toArray, List.getElem_cons_zero, List.getElem_cons_succ])
        go_simp
        refine hK9.out _ _ ((KX.out.alloc _).drew) (fun hHeld9 => ?_)
        clear hK9 K9
        (try simp only [List.getElem_toArray, List.getElem_cons_zero, List.getElem_cons_succ, Act.put, List.setIfInBounds_toArray, List.set_cons_zero, List.set_cons_succ])
        refine wpAnyH_ready (rs := [5]) (by kernel_rfl) (by simp) ?_
        refine AllReadyH.cons rfl (fun K9 hK9 => ?_) AllReadyH.nil
        (try simp only [List.getElem_toArray, List.getElem_cons_zero, List.getElem_cons_succ])
        rw [if_pos (by rfl)]
        refine wp_extend elem_byte _ _ _ (by rfl) (w.heap.size + 1) bs.length _ _ (by rfl) (O1.out.alloc _).drew _ _ [.int .u8 (IntKind.u8.wrap lab)] (by rfl) (Reads.one_ wa _ _).drew (by simp [Value.oneCell']) (by simp only [List.length_cons, List.length_nil, maxLen]; omega) (by simp only [List.length_cons, List.length_nil]; omega) (by rw [heap_drew, World.size_alloc]; omega) ?_
        intro A6 c6 w6 hown6 hg6 hf6
        have kx6 := (KX.out.alloc (.cells #[.int .u8 (IntKind.u8.wrap lab)] 5)).drew.grown hg6 (by intro he; have := (lt1 _ he.symm).2; omega)
        have e6 : bytesV bs ++ [.int .u8 (IntKind.u8.wrap lab)] = bytesV (bs ++ enc1 lab) := by rw [← bytesV_append, enc1_cell]
        rw [e6] at hown6
        simp only [List.length_cons, List.length_nil, Nat.zero_add] at hown6 hf6 ⊢
        have HB6 := Lib.hid ((HB1.out.alloc sa (.cells #[.int .u8 (IntKind.u8.wrap lab)] 5)).drew.grown hg6 (by rw [heap_drew, World.size_alloc]; omega) (fun k hk => by have := (lt1 k hk).1; omega))
        have s6 := HB6.out.size
        refine hK9.out _ _ (kx6) (fun hHeld9 => ?_)
        clear hK9 K9
        (try simp only [List.getElem_toArray, List.getElem_cons_zero, List.getElem_cons_succ, Act.put, List.setIfInBounds_toArray, List.set_cons_zero, List.set_cons_succ])
        refine wpAnyH_ready (rs := [8]) (by kernel_rfl) (by simp) ?_
        refine AllReadyH.cons rfl (fun K9 hK9 => ?_) AllReadyH.nil
        (try simp only [List.getElem_toArray, List.getElem_cons_zero, List.getElem_cons_succ])
        go_simp
        refine (rsmall_any data (.slice Ad data.length cd) w6 B (by omega) (HD.out w6 HB6.out) (by omega)).mono ?_
        rintro en w7 ⟨A7, c7, rfl, hown7, hb7⟩
        have kx7 := kx6.below hb7 kx6.lt
        have hown67 := own_bel3 hown6 hb7
        have HB7 := Lib.hid (HB6.out.trans (hb7.mono s6))
        have s7 := HB7.out.size
        have lt6 := hown6.lt
        have R7 := Reads.of_own hown7
        have l7 : (data.flatMap enc1).length = data.length := length_flat1 data
        rw [l7] at R7 ⊢
        refine hK9.out _ _ (kx7) (fun hHeld9 => ?_)
        clear hK9 K9
        (try simp only [List.getElem_toArray, List.getElem_cons_zero, List.getElem_cons_succ, Act.put, List.setIfInBounds_toArray, List.set_cons_zero, List.set_cons_succ])
        refine wpAnyH_ready (rs := [9]) (by kernel_rfl) (by simp) ?_
        refine AllReadyH.cons rfl (fun K9 hK9 => ?_) AllReadyH.nil
        (try simp only [List.getElem_toArray, List.getElem_cons_zero, List.getElem_cons_succ])
        rw [if_pos (by rfl)]
        refine wp_extend elem_byte _ _ _ (by rfl) (w.heap.size + 1) (bs.length + 1) _ _ (by rfl) hown67 w7.heap.size _ (bytesV (data.flatMap enc1)) (by rfl) R7 (bytesV_one _) (by rw [length_bytesV, l7]; unfold maxLen; omega) (by rw [length_bytesV, l7]; omega) (by have := kx7.lt; omega) ?_
        intro A8 c8 w8 hown8 hg8 hf8
        have kx8 := kx7.grown hg8 (by intro he; have := (lt6 _ he.symm).1; have := hf6.off he.symm; rcases this with h | h; exact absurd (lt1 _ h).2 (by omega); rw [heap_drew, World.size_alloc] at h; omega)
        rw [bytesV_append, HLK.out, length_bytesV, l7] at hown8
        rw [length_bytesV, l7]
        have HB8 := Lib.hid (HB7.out.grown hg8 s7 (fun k hk => by have := (lt6 k hk).1; omega))
        refine hK9.out _ _ (kx8) (fun hHeld9 => ?_)
        clear hK9 K9
        (try simp only [List.getElem_toArray, List.getElem_cons_zero, List.getElem_cons_succ, Act.put, List.setIfInBounds_toArray, List.set_cons_zero, List.set_cons_succ])
        refine' wpAnyH_take (i := 10) (v := _) rfl (by kernel_rfl) (by kernel_rfl) (by kernel_rfl) (fun _ _ _ h => h) (Or.inl ⟨by rfl, ?taq7⟩) (by assumption) ?tbq7
        case taq7 =>
          intro wS hSw
          (try dsimp only at hSw)
          go_simp
          (try (with_reducible rfl))
        (try simp only [List.getElem_toArray, List.getElem_cons_zero, List.getElem_cons_succ, Act.put, List.setIfInBounds_toArray, List.set_cons_zero, List.set_cons_succ])
        refine wpAnyH_done (by kernel_rfl) ?_ _
        have HO8 := Lib.hid hown8
        have HLE : Hid ((hd ++ (xs.take (j + 1)).flatMap encEx).length = bs.length + 1 + data.length) := Lib.hid (by rw [← HLK.out]; simp only [List.length_append, length_enc1, l7])
        clear hown8 hg8 hf8 kx6 kx7 kx8 hown6 hg6 hf6 hown67 hown7 hb7 R7 l7 e6 lt6 lt1
        go_wp2
        go_roundw
        case rel => exact ⟨j + 1, hd ++ (xs.take (j + 1)).flatMap encEx, A8, c8, by omega, by go_num, by rw [HLE.out], Lib.hid rfl, by rw [HLE.out]; omega, Lib.hid (by rw [HLE.out]; exact HO8.out), HB8⟩
        case measure => simp [intOf]; omega
      · have HE : Hid (encD ⟨a, b, c, ex, cl, .slice A xs.length k, xs⟩ = bs) := Lib.hid (by
          rw [hbs.out, List.take_of_length_le (by omega), ← E5.out]
          rfl)
        go_wp2
        go_ret2
        refine ⟨hbel.out, .inr ⟨HR.out, A', c', ?_, ?_⟩⟩
        · rw [HE.out]; rfl
        · rw [HE.out]
          exact own_lower hown.out (by omega)
end Go.Proofs.Ytfhlailhcfjjaaa
