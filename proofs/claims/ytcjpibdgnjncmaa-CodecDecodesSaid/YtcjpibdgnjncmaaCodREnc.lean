/- Contracts of the reference's small, Encode. -/
import Derived.Test.YtcjpibdgnjncmaaCodRMay
import Derived.Test.YtcjpibdgnjncmaaRefU
import Derived.Test.YtcjpibdgnjncmaaCodEnc
import Derived.Deep.RegionHeld3
import Derived.Deep.DrawnRows
namespace Go.Proofs.Ytcjpibdgnjncmaa
open Go.RowKit
set_option linter.unusedVariables false
set_option linter.unusedSimpArgs false

theorem lf1 (l : List Int) : (l.flatMap enc1).length = l.length := by rw [length_flatK enc1 1 length_enc1]; omega
theorem enc1_cell (n : Int) : bytesV (enc1 n) = [.int .u8 (IntKind.u8.wrap n)] := by
  unfold enc1 bytesV
  rw [show (1 : Nat) = 0 + 1 from rfl, beB_succ, beB_zero]
  simp only [List.nil_append, List.map_cons, List.map_nil, List.cons.injEq, and_true, Value.int.injEq, true_and]
  rw [IntKind.wrap_u64, IntKind.wrap_u8]
  simp
  omega
theorem flat_snoc {xs : List Int} {k : Nat} {x : Int} (h : xs[k]? = some x) : bytesV ((xs.take k).flatMap enc1) ++ [.int .u8 (IntKind.u8.wrap x)] = bytesV ((xs.take (k + 1)).flatMap enc1) := by
  rw [flat_take enc1 h, ← enc1_cell, bytesV_append]
theorem Reads.cellAdd {w : World} {B g o n c : Nat} {xs : List Value} (h : Reads w B (.slice (some ⟨g, o, none⟩) n c) xs) : ∀ j u, xs[j]? = some u → w.cell? ((⟨g, o, none⟩ : Addr).add j) = some u := by
  intro j u hu
  obtain ⟨A, n', c', e, hl, _, _, hat⟩ := h
  injection e with e1 e2 e3
  subst e1 e2 e3
  have hj := (List.getElem?_eq_some_iff.1 hu).1
  obtain ⟨g', o', e, _, hx⟩ := hat.out (by omega)
  injection e with e
  injection e with e1 e2
  subst e1 e2
  rw [addr_add]
  exact hx j u hu
set_option maxHeartbeats 1600000 in
theorem rsmall_any (xs : List Int) (v : Value) (w : World) (B : Nat) (hB : B ≤ w.heap.size) (h : Reads w B v (ints .i8 xs)) (hlen : xs.length ≤ 1048576) :
    Calls Try.prog 22 #[v] w (NewBytes w (xs.flatMap enc1)) := by
  obtain ⟨A, c, rfl, _, _⟩ := h.form
  rw [length_ints] at h
  have HR := Lib.hid h
  obtain ⟨n, hn⟩ : ∃ n, xs.length = n := ⟨_, rfl⟩
  rw [length_ints]
  rw [hn] at HR hlen ⊢
  have HN := Lib.hid hn
  clear h hn
  go_enter Try.func22, Try.ntmps22
  go_wp2
  go_loopw [3, 8] (fun v i wr => ∃ (k : Nat) (A' : Option Addr) (c' : Nat), k ≤ n ∧ i = .int .i64 k ∧ v = .slice A' k c' ∧ Hid (wr.ownsRow w.heap.size 5 1 (.slice A' k c') k (bytesV ((xs.take k).flatMap enc1))) ∧ Hid (Below w.heap.size w wr)) (fun _ i _ => n - (intOf i).toNat)
  case atStart => exact ⟨0, none, 0, by omega, rfl, rfl, Lib.hid (World.ownsRow_nil _ _ _ _), Lib.hid (Below.refl _ _)⟩
  case round =>
    obtain ⟨k, A', c', hk, rfl, rfl, hown, hbel⟩ := hrel
    by_cases hlt : k < n
    · obtain ⟨A', n', c', e', _, _, _, hat⟩ := HR.out.below (hbel.out.mono hB)
      injection e' with e1 e2 e3
      subst e1 e2 e3
      obtain ⟨g, o, rfl, hg, hx⟩ := hat.out (by omega)
      have hl := HN.out
      have c1 := hx k (.int .i8 xs[k]) (ints_at _ _ _ (by omega))
      obtain ⟨y, hy⟩ : ∃ y, xs[k] = y := ⟨_, rfl⟩
      rw [hy] at c1
      have HY := Lib.hid (flat_snoc (xs := xs) (k := k) (x := y) (by rw [List.getElem?_eq_getElem (by omega), hy]))
      have i1 : (0 : Int) ≤ (k : Int) := by omega
      have i2 : (k : Int) < (n : Int) := by omega
      have hbs := hbel.out.size
      clear hat hx hl hy HR
      go_wp2_with (at_builtin; refine wpList_extend elem_byte _ rfl (.tmp 12) (.tmp 15) rfl w.heap.size k _ _ rfl (hown.out.alloc _) _ _ [.int .u8 (IntKind.u8.wrap y)] rfl (Reads.one_ wr _ _) (by simp [Value.oneCell']) (by simp only [List.length_cons, List.length_nil, maxLen]; omega) (by simp only [List.length_cons, List.length_nil]; omega) (by rw [World.size_alloc]; omega) ?_; intro A9 c9 w9 hown9 hg9 hf9; simp only [List.length_cons, List.length_nil, Nat.zero_add] at hown9 ⊢)
      rw [HY.out] at hown9
      have HB9 := Lib.hid ((hbel.out.alloc hbs _).grown hg9 (by rw [World.size_alloc]; omega) (fun k hk => (hown.out.lt k hk).1))
      have HO9 := Lib.hid hown9
      clear hown9 hg9 hf9
      go_roundw
      case rel => exact ⟨k + 1, A9, c9, by omega, by go_num, rfl, HO9, HB9⟩
      case measure => simp [intOf]; omega
    · obtain rfl : k = n := by omega
      go_wp2
      go_ret
      refine ⟨A', c', ?_, ?_, hbel.out⟩
      · rw [lf1, HN.out]; rfl
      · have := hown.out
        rw [List.take_of_length_le (by have := HN.out; omega)] at this
        rw [lf1, HN.out]
        exact this
/-- the bytes so far, beside known blocks -/
structure EB (w0 w : World) (A : Option Addr) (n c : Nat) (bs : List UInt8) (ks : List (Nat × TypeId × List Value)) : Prop where
  bel : Below w0.heap.size w0 w
  own : w.ownsRow w0.heap.size 5 1 (.slice A n c) n (bytesV bs)
  len : bs.length = n
  blk : ∀ b ∈ ks, Blk w b.1 b.2.1 b.2.2 ∧ (Value.slice A n c).ownBlock ≠ some b.1
def CutE (w0 : World) (n : Nat) (bs : List UInt8) (ks : List (Nat × TypeId × List Value)) (s : Value) (w : World) : Prop :=
  ∃ A c, s = .slice A n c ∧ EB w0 w A n c bs ks
theorem Blk.one {w : World} {g : Nat} {t : TypeId} {x : Value} (h : Blk w g t [x]) : Reads w (g + 1) (.slice (some ⟨g, 0, none⟩) 1 1) [x] :=
  ⟨some ⟨g, 0, none⟩, _, _, rfl, rfl, Nat.le_refl _, by unfold maxLen; simp, fun _ => ⟨g, 0, rfl, by omega, fun j u hu => by
    rw [Nat.zero_add, h.cell]
    exact hu⟩⟩
theorem mayC_wd {p : ParC} (h : mayC p = true) (hz : zeroP p = false) : 0 < p.wd.length := by
  unfold mayC at h
  rw [hz, Bool.false_or] at h
  simp only [Bool.and_eq_true, decide_eq_true_eq] at h
  have := mayB_len h.1
  omega
section
variable {w0 w w' : World} {A A' : Option Addr} {n c c' m : Nat} {bs new : List UInt8} {q : Nat} {T : TypeId} {cs : List Value} {ks ks' : List (Nat × TypeId × List Value)}
theorem EB.get (h : EB w0 w A n c bs ((q, T, cs) :: ks)) : Blk w q T cs := (h.blk _ List.mem_cons_self).1
theorem EB.get2 {b : Nat × TypeId × List Value} (h : EB w0 w A n c bs (b :: (q, T, cs) :: ks)) : Blk w q T cs := (h.blk _ (List.mem_cons_of_mem _ List.mem_cons_self)).1
theorem EB.less (h : EB w0 w A n c bs ks) (hs : ∀ b ∈ ks', b ∈ ks) : EB w0 w A n c bs ks' := ⟨h.bel, h.own, h.len, fun b hb => h.blk b (hs b hb)⟩
theorem EB.drop {b : Nat × TypeId × List Value} (h : EB w0 w A n c bs (b :: ks)) : EB w0 w A n c bs ks := h.less (fun b hb => List.mem_cons_of_mem _ hb)
theorem EB.none_ (h : EB w0 w A n c bs ks) : EB w0 w A n c bs [] := h.less (fun b hb => absurd hb (by simp))
theorem EB.below (h : EB w0 w A n c bs ks) (hb : Below w.heap.size w w') : EB w0 w' A n c bs ks :=
  ⟨h.bel.trans (hb.mono h.bel.size), own_bel3 h.own hb, h.len, fun b hm => ⟨(h.blk b hm).1.below hb (h.blk b hm).1.lt, (h.blk b hm).2⟩⟩
theorem EB.drew (h : EB w0 w A n c bs ks) : EB w0 w.drew A n c bs ks := h.below (Below.refl _ w).drew
theorem EB.grow (h : EB w0 w A n c bs ks) (hown : w'.ownsRow w0.heap.size 5 1 (.slice A' (n + m) c') (n + m) (bytesV bs ++ bytesV new)) (hg : w.grownBy w' (Value.slice A n c).ownBlock) (hf : Fresh w (.slice A n c) (.slice A' (n + m) c')) (hm : new.length = m) : EB w0 w' A' (n + m) c' (bs ++ new) ks := by
  refine ⟨h.bel.grown hg h.bel.size (fun k hk => (h.own.lt k hk).1), by rw [← bytesV_append]; exact hown, by rw [List.length_append, h.len, hm], fun b hb => ⟨(h.blk b hb).1.grown hg (fun e => (h.blk b hb).2 e.symm), fun e => ?_⟩⟩
  rcases hf.off e with e | e
  · exact (h.blk b hb).2 e
  · have := (h.blk b hb).1.lt; omega
theorem EB.box (h : EB w0 w A n c bs ks) (cs' : List Value) (T' : TypeId) : EB w0 (w.alloc (.cells cs'.toArray T')) A n c bs ((w.heap.size, T', cs') :: ks) := by
  have h2 := h.below ((Below.refl _ w).alloc (Nat.le_refl _) (.cells cs'.toArray T'))
  refine ⟨h2.bel, h2.own, h2.len, fun b hb => ?_⟩
  rcases List.mem_cons.1 hb with rfl | hb
  · exact ⟨Blk.fresh w T' cs', fun e => by have := (h.own.lt _ e).2; omega⟩
  · exact h2.blk b hb
theorem EB.cong (h : EB w0 w A n c bs ks) (e : bs = new) : EB w0 w A n c new ks := e ▸ h
end
set_option maxRecDepth 100000 in
set_option maxHeartbeats 6400000 in
theorem rcenc_any (v : Value) (s : StV) (w : World) (B : Nat) (hB : B ≤ w.heap.size) (h : StOf w B v s) : Calls Try.prog 10 #[v] w (EncOf w s) := by
  obtain ⟨seed, step, lv, ps⟩ := s
  have h0 := h
  obtain ⟨rfl, hsd, hst, hx⟩ := h
  dsimp only at hx hsd hst h0 ⊢
  obtain ⟨A, k, rfl⟩ := hx.form
  have hlen := hx.len
  have HX := Lib.hid hx
  have hb0 := (Below.refl w.heap.size w).alloc (Nat.le_refl _) (.cells #[.int .u64 seed, .int .i64 step, .slice A ps.length k] 25)
  have hk0 := Blk.fresh w 25 [.int .u64 seed, .int .i64 step, .slice A ps.length k]
  obtain ⟨r, hr⟩ : ∃ r, mayS ⟨seed, step, .slice A ps.length k, ps⟩ = r := ⟨_, rfl⟩
  have HM := Lib.hid (rmays_any _ _ (w.alloc (.cells #[.int .u64 seed, .int .i64 step, .slice A ps.length k] 25)) B (by have := hb0.size; omega) (h0.below (hb0.mono hB)) r hr)
  have HB := Lib.hid hb0
  have HK := Lib.hid hk0
  have hs := hb0.size
  have hl := hk0.lt
  have HR := Lib.hid hr
  have HU8 : Hid (∀ W, Calls Try.prog 19 #[.int .u64 seed] W (NewBytes W (enc8 seed))) := Lib.hid (fun W => by
    obtain ⟨n, rfl⟩ : ∃ n : Nat, seed = (n : Int) := ⟨seed.toNat, by omega⟩
    have h1 := ru64b_any n (by omega) W
    unfold enc8
    rw [Int.toNat_natCast]
    exact h1)
  have HU4 : Hid (∀ (x : Int) W, Calls Try.prog 20 #[.int .u32 (IntKind.u32.wrap x)] W (NewBytes W (enc4 x))) := Lib.hid (fun x W => by
    have h1 := ru32b_any (IntKind.u32.wrap x).toNat (u32_nat x).2 W
    rw [← (u32_nat x).1] at h1
    exact h1)
  have HU2 : Hid (∀ (x : Int) W, -9223372036854775808 ≤ x → x ≤ 9223372036854775807 → Calls Try.prog 21 #[.int .i64 x] W (NewBytes W (enc2 x))) := Lib.hid (fun x W a b => ru16b_any x _ (wrapNat x) a b W)
  clear hb0 hk0 hx h0 hr hst hsd
  have m0 := HK.out.cell 0
  have m1 := HK.out.cell 1
  have m2 := HK.out.cell 2
  simp only [List.getElem?_cons_zero, List.getElem?_cons_succ] at m0 m1 m2
  go_enter Try.func10, Try.ntmps10
  go_wp2_with fail
  generalize (w.alloc (.cells #[.int .u64 seed, .int .i64 step, .slice A ps.length k] 25)) = w1 at HB HK HM m0 m1 m2 hs hl ⊢
  refine HM.out.mono ?_
  rintro en w2 ⟨rfl, hb⟩
  have HB2 := Lib.hid (HB.out.trans (hb.mono (by omega)))
  have HK2 := Lib.hid (HK.out.below hb hl)
  clear hb m0 m1 m2
  cases r with
  | false =>
    go_wp2
    go_ret2
    exact ⟨HB2.out, .inl ⟨HR.out, rfl⟩⟩
  | true =>
    have hsz := HB2.out.size
    have HMS := Lib.hid (mayS_of HR.out)
    have hp12 : ps.length ≤ 12 := HMS.out.2.1
    have l2 := HK2.out.lt
    have m0 := HK2.out.cell 0
    have m1 := HK2.out.cell 1
    have m2 := HK2.out.cell 2
    simp only [List.getElem?_cons_zero, List.getElem?_cons_succ] at m0 m1 m2
    have kc := Lib.run_convert_bytes_const (P := Try.prog) w2 27 5 #[.int .u8 112, .int .u8 100, .int .u8 115, .int .u8 116] 4 4 Try.underlying27 Try.underlying5
    have HRC := Lib.hid (reads_const w2 [112, 100, 115, 116] 5 (4, 5) #[.int .u8 112, .int .u8 100, .int .u8 115, .int .u8 116] 4 rfl rfl (by decide))
    simp only [List.size_toArray, List.length_cons, List.length_nil, Nat.zero_add, Nat.reduceAdd] at kc
    obtain ⟨i0, hi0, hz0, hs0, hy0⟩ := info_parts elem_byte.info
    have HI0 := Lib.hid hi0
    have HZ0 := Lib.hid hz0
    have HS0 := Lib.hid hs0
    have HY0 := Lib.hid hy0
    clear hi0 hz0 hs0 hy0
    have hba := (Below.refl w2.heap.size w2).alloc (Nat.le_refl _) (.cells #[.int .u8 112, .int .u8 100, .int .u8 115, .int .u8 116] 5 (4, 5))
    have HBA := Lib.hid (HB2.out.trans (hba.mono hsz))
    have HKA := Lib.hid (HK2.out.below hba l2)
    have hza : w2.heap.size < (w2.alloc (.cells #[.int .u8 112, .int .u8 100, .int .u8 115, .int .u8 116] 5 (4, 5))).heap.size := by simp
    clear hba
    go_wp2_with fail
    refine (HU8.out _).mono ?_
    clear m0 m1 m2
    rintro en w3 ⟨A3, c3, rfl, hown3, hb3⟩
    have HB3 := Lib.hid (HBA.out.trans (hb3.mono HBA.out.size))
    have HK3 := Lib.hid (HKA.out.below hb3 HKA.out.lt)
    have HRC3 := Lib.hid (HRC.out.below (hb3.mono (by omega)))
    rw [length_enc8] at hown3 ⊢
    obtain ⟨g3, cq, _, e3, hg3', hl3', _, _, _, _, _⟩ := own_blkN hown3 (by omega)
    injection e3 with e3a _ e3b
    subst e3a e3b
    have HR3 := Lib.hid (Reads.of_own hown3)
    have l3 := HK3.out.lt
    have s3 := HB3.out.size
    clear hown3 hb3 HKA HBA HK2 HB2 hl3'
    go_wp2_with (at_builtin; refine wpList_append_grows _ rfl (.tmp 15) (.tmp 18) 27 rfl 5 i0 (.int .u8 0) 1 1 Try.underlying27 HI0.out HZ0.out HS0.out HY0.out rfl (by decide) (some ⟨w2.heap.size, 0, none⟩) 4 4 (bytesV [112, 100, 115, 116]) rfl (by intro h; cases h) rfl (fun b hb => by (injection hb with hb; subst hb; exact HRC3.out.cellAdd)) ⟨g3, 0, none⟩ 8 c3 (bytesV (enc8 seed)) rfl (by rw [length_bytesV, length_enc8]) HR3.out.cellAdd (bytesV_one _) (by omega) (by unfold maxLen; omega) (by omega) ?_; intro v4 w4 hown4 hg4; have hk4 := HK3.out.grown hg4 (by simp))
    rw [bytesV_append] at hown4
    simp only [Nat.reduceAdd] at hown4
    obtain ⟨A4, c4, rfl⟩ := own_form hown4
    have HE4 : Hid (EB w w4 A4 12 c4 ([112, 100, 115, 116] ++ enc8 seed) [(w.heap.size, 25, [.int .u64 seed, .int .i64 step, .slice A ps.length k])]) := Lib.hid ⟨HB3.out.grown hg4 s3 (fun k hk => by simp at hk), own_lower hown4 (by omega), by simp [length_enc8], fun b hb => by
      rw [List.mem_singleton.1 hb]
      exact ⟨hk4, fun e => by have := (hown4.lt _ e).1; omega⟩⟩
    clear hown4 hg4 hk4 HB3 HK3 HR3 HRC3 HRC kc HI0 HZ0 HS0 HY0 hza l3 s3 l2
    go_upto_region 4 with fail
    go_cut [4] (fun s wx => CutE w 17 (([112, 100, 115, 116] ++ enc8 seed) ++ enc4 step ++ enc1 ps.length) [(w.heap.size, 25, [.int .u64 seed, .int .i64 step, .slice A ps.length k])] s wx)
    case first =>
      have HEd := Lib.hid HE4.out.drew
      refine wp_region_held_drew (S := ((fun w' => Blk w' w.heap.size 25 [.int .u64 seed, .int .i64 step, .slice A ps.length k]))) (by kernel_rfl) (HEd.out.get) (fun hHeld => ?_)
      clear HE4
      generalize w4.drew = wd at HEd hHeld ⊢
      refine' wpAnyH_take (i := 0) (v := _) rfl (by kernel_rfl) (by kernel_rfl) (by kernel_rfl) (fun _ _ _ h => h) (Or.inl ⟨by rfl, ?taq1⟩) (by assumption) ?tbq1
      case taq1 =>
        intro wS hSw
        (try dsimp only at hSw)
        (have m1 := hSw.cell 1; have m2 := hSw.cell 2; have lk := hSw.lt; simp only [List.getElem?_cons_zero, List.getElem?_cons_succ] at m1 m2; clear hSw; go_simp)
        (try (with_reducible rfl))
      (try simp only [List.getElem_toArray, List.getElem_cons_zero, List.getElem_cons_succ, Act.put, List.setIfInBounds_toArray, List.set_cons_zero, List.set_cons_succ])
      refine' wpAnyH_take (i := 1) (v := _) rfl (by kernel_rfl) (by kernel_rfl) (by kernel_rfl) (fun _ _ _ h => h) (Or.inl ⟨by rfl, ?taq2⟩) (by assumption) ?tbq2
      case taq2 =>
        intro wS hSw
        (try dsimp only at hSw)
        (have m1 := hSw.cell 1; have m2 := hSw.cell 2; have lk := hSw.lt; simp only [List.getElem?_cons_zero, List.getElem?_cons_succ] at m1 m2; clear hSw; go_simp)
        (try (with_reducible rfl))
      (try simp only [List.getElem_toArray, List.getElem_cons_zero, List.getElem_cons_succ, Act.put, List.setIfInBounds_toArray, List.set_cons_zero, List.set_cons_succ])
      refine' wpAnyH_take (i := 2) (v := _) rfl (by kernel_rfl) (by kernel_rfl) (by kernel_rfl) (fun _ _ _ h => h) (Or.inl ⟨by rfl, ?taq3⟩) (by assumption) ?tbq3
      case taq3 =>
        intro wS hSw
        (try dsimp only at hSw)
        (have m1 := hSw.cell 1; have m2 := hSw.cell 2; have lk := hSw.lt; simp only [List.getElem?_cons_zero, List.getElem?_cons_succ] at m1 m2; clear hSw; go_simp)
        (try (with_reducible rfl))
      (try simp only [List.getElem_toArray, List.getElem_cons_zero, List.getElem_cons_succ, Act.put, List.setIfInBounds_toArray, List.set_cons_zero, List.set_cons_succ])
      refine' wpAnyH_take (i := 3) (v := _) rfl (by kernel_rfl) (by kernel_rfl) (by kernel_rfl) (fun _ _ _ h => h) (Or.inl ⟨by rfl, ?taq4⟩) (by assumption) ?tbq4
      case taq4 =>
        intro wS hSw
        (try dsimp only at hSw)
        (have m1 := hSw.cell 1; have m2 := hSw.cell 2; have lk := hSw.lt; simp only [List.getElem?_cons_zero, List.getElem?_cons_succ] at m1 m2; clear hSw; go_simp)
        (try (with_reducible rfl))
      (try simp only [List.getElem_toArray, List.getElem_cons_zero, List.getElem_cons_succ, Act.put, List.setIfInBounds_toArray, List.set_cons_zero, List.set_cons_succ])
      refine' wpAnyH_take (i := 6) (v := _) rfl (by kernel_rfl) (by kernel_rfl) (by kernel_rfl) (fun _ _ _ h => h) (Or.inl ⟨by rfl, ?taq5⟩) (by assumption) ?tbq5
      case taq5 =>
        intro wS hSw
        (try dsimp only at hSw)
        (have m1 := hSw.cell 1; have m2 := hSw.cell 2; have lk := hSw.lt; simp only [List.getElem?_cons_zero, List.getElem?_cons_succ] at m1 m2; clear hSw; go_simp)
        (try (with_reducible rfl))
      (try simp only [List.getElem_toArray, List.getElem_cons_zero, List.getElem_cons_succ, Act.put, List.setIfInBounds_toArray, List.set_cons_zero, List.set_cons_succ])
      refine' wpAnyH_take (i := 7) (v := _) rfl (by kernel_rfl) (by kernel_rfl) (by kernel_rfl) (fun _ _ _ h => h) (Or.inl ⟨by rfl, ?taq6⟩) (by assumption) ?tbq6
      case taq6 =>
        intro wS hSw
        (try dsimp only at hSw)
        (have m1 := hSw.cell 1; have m2 := hSw.cell 2; have lk := hSw.lt; simp only [List.getElem?_cons_zero, List.getElem?_cons_succ] at m1 m2; clear hSw; go_simp)
        (try (with_reducible rfl))
      (try simp only [List.getElem_toArray, List.getElem_cons_zero, List.getElem_cons_succ, Act.put, List.setIfInBounds_toArray, List.set_cons_zero, List.set_cons_succ])
      refine' wpAnyH_take (i := 8) (v := _) rfl (by kernel_rfl) (by kernel_rfl) (by kernel_rfl) (fun _ _ _ h => h) (Or.inl ⟨by rfl, ?taq7⟩) (by assumption) ?tbq7
      case taq7 =>
        intro wS hSw
        (try dsimp only at hSw)
        (have m1 := hSw.cell 1; have m2 := hSw.cell 2; have lk := hSw.lt; simp only [List.getElem?_cons_zero, List.getElem?_cons_succ] at m1 m2; clear hSw; go_simp)
        (try (with_reducible rfl))
      (try simp only [List.getElem_toArray, List.getElem_cons_zero, List.getElem_cons_succ, Act.put, List.setIfInBounds_toArray, List.set_cons_zero, List.set_cons_succ])
      refine' wpAnyH_take (i := 9) (v := _) rfl (by kernel_rfl) (by kernel_rfl) (by kernel_rfl) (fun _ _ _ h => h) (Or.inl ⟨by rfl, ?taq8⟩) (by assumption) ?tbq8
      case taq8 =>
        intro wS hSw
        (try dsimp only at hSw)
        (have m1 := hSw.cell 1; have m2 := hSw.cell 2; have lk := hSw.lt; simp only [List.getElem?_cons_zero, List.getElem?_cons_succ] at m1 m2; clear hSw; go_simp)
        (try (with_reducible rfl))
      (try simp only [List.getElem_toArray, List.getElem_cons_zero, List.getElem_cons_succ, Act.put, List.setIfInBounds_toArray, List.set_cons_zero, List.set_cons_succ])
      refine wpAnyH_ready (rs := [4, 10]) (by kernel_rfl) (by simp) ?_
      refine AllReadyH.cons rfl (fun K9 hK9 => ?_) (AllReadyH.cons rfl (fun K9 hK9 => ?_) AllReadyH.nil)
      ·
        (try simp only [List.getElem_toArray, List.getElem_cons_zero, List.getElem_cons_succ])
        go_simp
        refine (HU4.out step _).mono ?_
        rintro en we ⟨Ae, ce, rfl, howne, hbe⟩
        have H5 := Lib.hid (HEd.out.below hbe)
        have HRe := Lib.hid (Reads.of_own howne)
        rw [length_enc4] at HRe ⊢
        clear howne hbe
        (try clear hHeld)
        refine hK9.out _ _ (H5.out.get) (fun hHeld9 => ?_)
        clear hK9 K9
        (try simp only [List.getElem_toArray, List.getElem_cons_zero, List.getElem_cons_succ, Act.put, List.setIfInBounds_toArray, List.set_cons_zero, List.set_cons_succ])
        refine wpAnyH_ready (rs := [5, 10]) (by kernel_rfl) (by simp) ?_
        refine AllReadyH.cons rfl (fun K9 hK9 => ?_) (AllReadyH.cons rfl (fun K9 hK9 => ?_) AllReadyH.nil)
        ·
          (try simp only [List.getElem_toArray, List.getElem_cons_zero, List.getElem_cons_succ])
          rw [if_pos (by rfl)]
          refine wp_extend elem_byte _ _ _ (by rfl) w.heap.size 12 _ _ (by rfl) H5.out.own _ _ (bytesV (enc4 step)) (by rfl) (HRe.out) (bytesV_one _) (by rw [length_bytesV, length_enc4]; unfold maxLen; omega) (by rw [length_bytesV, length_enc4]; omega) H5.out.bel.size ?_
          intro Af cf wf hownf hgf hff
          simp only [length_bytesV, length_enc4] at hownf hff ⊢
          have H6 := Lib.hid (H5.out.grow hownf hgf hff (by rw [length_enc4]))
          clear hownf hgf hff
          refine hK9.out _ _ (H6.out.get) (fun hHeld9 => ?_)
          clear hK9 K9
          (try simp only [List.getElem_toArray, List.getElem_cons_zero, List.getElem_cons_succ, Act.put, List.setIfInBounds_toArray, List.set_cons_zero, List.set_cons_succ])
          refine wpAnyH_ready (rs := [10]) (by kernel_rfl) (by simp) ?_
          refine AllReadyH.cons rfl (fun K9 hK9 => ?_) AllReadyH.nil
          have H7 := Lib.hid (H6.out.box [.int .u8 (IntKind.u8.wrap (ps.length : Int))] 5)
          (try simp only [List.getElem_toArray, List.getElem_cons_zero, List.getElem_cons_succ])
          go_simp
          refine hK9.out _ _ (H7.out.get2) (fun hHeld9 => ?_)
          clear hK9 K9
          (try simp only [List.getElem_toArray, List.getElem_cons_zero, List.getElem_cons_succ, Act.put, List.setIfInBounds_toArray, List.set_cons_zero, List.set_cons_succ])
          refine wpAnyH_ready (rs := [11]) (by kernel_rfl) (by simp) ?_
          refine AllReadyH.cons rfl (fun K9 hK9 => ?_) AllReadyH.nil
          (try simp only [List.getElem_toArray, List.getElem_cons_zero, List.getElem_cons_succ])
          rw [if_pos (by rfl)]
          refine wp_extend elem_byte _ _ _ (by rfl) w.heap.size (12 + 4) _ _ (by rfl) H7.out.own _ _ (bytesV (enc1 ps.length)) (by rfl) (by rw [enc1_cell]; exact H7.out.get.one) (bytesV_one _) (by rw [length_bytesV, length_enc1]; unfold maxLen; omega) (by rw [length_bytesV, length_enc1]; omega) H7.out.bel.size ?_
          intro A9 c9 w9 hown9 hg9 hf9
          simp only [length_bytesV, length_enc1] at hown9 hf9 ⊢
          have HZ := Lib.hid (H7.out.grow hown9 hg9 hf9 (by rw [length_enc1]))
          clear hown9 hg9 hf9
          refine hK9.out _ _ (HZ.out.get2) (fun hHeld9 => ?_)
          clear hK9 K9
          (try simp only [List.getElem_toArray, List.getElem_cons_zero, List.getElem_cons_succ, Act.put, List.setIfInBounds_toArray, List.set_cons_zero, List.set_cons_succ])
          refine' wpAnyH_take (i := 12) (v := _) rfl (by kernel_rfl) (by kernel_rfl) (by kernel_rfl) (fun _ _ _ h => h) (Or.inl ⟨by rfl, ?taq9⟩) (by assumption) ?tbq9
          case taq9 =>
            intro wS hSw
            (try dsimp only at hSw)
            go_simp
            (try (with_reducible rfl))
          (try simp only [List.getElem_toArray, List.getElem_cons_zero, List.getElem_cons_succ, Act.put, List.setIfInBounds_toArray, List.set_cons_zero, List.set_cons_succ])
          refine wpAnyH_done (by kernel_rfl) ?_ _
          clear hHeld9
          go_wp2_with fail
          go_meet
          case rel => exact ⟨_, _, rfl, HZ.out.drop⟩
        ·
          have H6 := Lib.hid (H5.out.box [.int .u8 (IntKind.u8.wrap (ps.length : Int))] 5)
          (try simp only [List.getElem_toArray, List.getElem_cons_zero, List.getElem_cons_succ])
          go_simp
          refine hK9.out _ _ (H6.out.get2) (fun hHeld9 => ?_)
          clear hK9 K9
          (try simp only [List.getElem_toArray, List.getElem_cons_zero, List.getElem_cons_succ, Act.put, List.setIfInBounds_toArray, List.set_cons_zero, List.set_cons_succ])
          refine wpAnyH_ready (rs := [5]) (by kernel_rfl) (by simp) ?_
          refine AllReadyH.cons rfl (fun K9 hK9 => ?_) AllReadyH.nil
          (try simp only [List.getElem_toArray, List.getElem_cons_zero, List.getElem_cons_succ])
          rw [if_pos (by rfl)]
          refine wp_extend elem_byte _ _ _ (by rfl) w.heap.size 12 _ _ (by rfl) H6.out.own _ _ (bytesV (enc4 step)) (by rfl) (HRe.out.alloc (by simp) _) (bytesV_one _) (by rw [length_bytesV, length_enc4]; unfold maxLen; omega) (by rw [length_bytesV, length_enc4]; omega) H6.out.bel.size ?_
          intro Af cf wf hownf hgf hff
          simp only [length_bytesV, length_enc4] at hownf hff ⊢
          have H7 := Lib.hid (H6.out.grow hownf hgf hff (by rw [length_enc4]))
          clear hownf hgf hff
          refine hK9.out _ _ (H7.out.get2) (fun hHeld9 => ?_)
          clear hK9 K9
          (try simp only [List.getElem_toArray, List.getElem_cons_zero, List.getElem_cons_succ, Act.put, List.setIfInBounds_toArray, List.set_cons_zero, List.set_cons_succ])
          refine wpAnyH_ready (rs := [11]) (by kernel_rfl) (by simp) ?_
          refine AllReadyH.cons rfl (fun K9 hK9 => ?_) AllReadyH.nil
          (try simp only [List.getElem_toArray, List.getElem_cons_zero, List.getElem_cons_succ])
          rw [if_pos (by rfl)]
          refine wp_extend elem_byte _ _ _ (by rfl) w.heap.size (12 + 4) _ _ (by rfl) H7.out.own _ _ (bytesV (enc1 ps.length)) (by rfl) (by rw [enc1_cell]; exact H7.out.get.one) (bytesV_one _) (by rw [length_bytesV, length_enc1]; unfold maxLen; omega) (by rw [length_bytesV, length_enc1]; omega) H7.out.bel.size ?_
          intro A9 c9 w9 hown9 hg9 hf9
          simp only [length_bytesV, length_enc1] at hown9 hf9 ⊢
          have HZ := Lib.hid (H7.out.grow hown9 hg9 hf9 (by rw [length_enc1]))
          clear hown9 hg9 hf9
          refine hK9.out _ _ (HZ.out.get2) (fun hHeld9 => ?_)
          clear hK9 K9
          (try simp only [List.getElem_toArray, List.getElem_cons_zero, List.getElem_cons_succ, Act.put, List.setIfInBounds_toArray, List.set_cons_zero, List.set_cons_succ])
          refine' wpAnyH_take (i := 12) (v := _) rfl (by kernel_rfl) (by kernel_rfl) (by kernel_rfl) (fun _ _ _ h => h) (Or.inl ⟨by rfl, ?taq10⟩) (by assumption) ?tbq10
          case taq10 =>
            intro wS hSw
            (try dsimp only at hSw)
            go_simp
            (try (with_reducible rfl))
          (try simp only [List.getElem_toArray, List.getElem_cons_zero, List.getElem_cons_succ, Act.put, List.setIfInBounds_toArray, List.set_cons_zero, List.set_cons_succ])
          refine wpAnyH_done (by kernel_rfl) ?_ _
          clear hHeld9
          go_wp2_with fail
          go_meet
          case rel => exact ⟨_, _, rfl, HZ.out.drop⟩
      ·
        have H5 := Lib.hid (HEd.out.box [.int .u8 (IntKind.u8.wrap (ps.length : Int))] 5)
        (try simp only [List.getElem_toArray, List.getElem_cons_zero, List.getElem_cons_succ])
        go_simp
        refine hK9.out _ _ (H5.out.get2) (fun hHeld9 => ?_)
        clear hK9 K9
        (try simp only [List.getElem_toArray, List.getElem_cons_zero, List.getElem_cons_succ, Act.put, List.setIfInBounds_toArray, List.set_cons_zero, List.set_cons_succ])
        refine wpAnyH_ready (rs := [4]) (by kernel_rfl) (by simp) ?_
        refine AllReadyH.cons rfl (fun K9 hK9 => ?_) AllReadyH.nil
        (try simp only [List.getElem_toArray, List.getElem_cons_zero, List.getElem_cons_succ])
        go_simp
        refine (HU4.out step _).mono ?_
        rintro en we ⟨Ae, ce, rfl, howne, hbe⟩
        have H6 := Lib.hid (H5.out.below hbe)
        have HRe := Lib.hid (Reads.of_own howne)
        rw [length_enc4] at HRe ⊢
        clear howne hbe
        (try clear hHeld)
        refine hK9.out _ _ (H6.out.get2) (fun hHeld9 => ?_)
        clear hK9 K9
        (try simp only [List.getElem_toArray, List.getElem_cons_zero, List.getElem_cons_succ, Act.put, List.setIfInBounds_toArray, List.set_cons_zero, List.set_cons_succ])
        refine wpAnyH_ready (rs := [5]) (by kernel_rfl) (by simp) ?_
        refine AllReadyH.cons rfl (fun K9 hK9 => ?_) AllReadyH.nil
        (try simp only [List.getElem_toArray, List.getElem_cons_zero, List.getElem_cons_succ])
        rw [if_pos (by rfl)]
        refine wp_extend elem_byte _ _ _ (by rfl) w.heap.size 12 _ _ (by rfl) H6.out.own _ _ (bytesV (enc4 step)) (by rfl) (HRe.out) (bytesV_one _) (by rw [length_bytesV, length_enc4]; unfold maxLen; omega) (by rw [length_bytesV, length_enc4]; omega) H6.out.bel.size ?_
        intro Af cf wf hownf hgf hff
        simp only [length_bytesV, length_enc4] at hownf hff ⊢
        have H7 := Lib.hid (H6.out.grow hownf hgf hff (by rw [length_enc4]))
        clear hownf hgf hff
        refine hK9.out _ _ (H7.out.get2) (fun hHeld9 => ?_)
        clear hK9 K9
        (try simp only [List.getElem_toArray, List.getElem_cons_zero, List.getElem_cons_succ, Act.put, List.setIfInBounds_toArray, List.set_cons_zero, List.set_cons_succ])
        refine wpAnyH_ready (rs := [11]) (by kernel_rfl) (by simp) ?_
        refine AllReadyH.cons rfl (fun K9 hK9 => ?_) AllReadyH.nil
        (try simp only [List.getElem_toArray, List.getElem_cons_zero, List.getElem_cons_succ])
        rw [if_pos (by rfl)]
        refine wp_extend elem_byte _ _ _ (by rfl) w.heap.size (12 + 4) _ _ (by rfl) H7.out.own _ _ (bytesV (enc1 ps.length)) (by rfl) (by rw [enc1_cell]; exact H7.out.get.one) (bytesV_one _) (by rw [length_bytesV, length_enc1]; unfold maxLen; omega) (by rw [length_bytesV, length_enc1]; omega) H7.out.bel.size ?_
        intro A9 c9 w9 hown9 hg9 hf9
        simp only [length_bytesV, length_enc1] at hown9 hf9 ⊢
        have HZ := Lib.hid (H7.out.grow hown9 hg9 hf9 (by rw [length_enc1]))
        clear hown9 hg9 hf9
        refine hK9.out _ _ (HZ.out.get2) (fun hHeld9 => ?_)
        clear hK9 K9
        (try simp only [List.getElem_toArray, List.getElem_cons_zero, List.getElem_cons_succ, Act.put, List.setIfInBounds_toArray, List.set_cons_zero, List.set_cons_succ])
        refine' wpAnyH_take (i := 12) (v := _) rfl (by kernel_rfl) (by kernel_rfl) (by kernel_rfl) (fun _ _ _ h => h) (Or.inl ⟨by rfl, ?taq11⟩) (by assumption) ?tbq11
        case taq11 =>
          intro wS hSw
          (try dsimp only at hSw)
          go_simp
          (try (with_reducible rfl))
        (try simp only [List.getElem_toArray, List.getElem_cons_zero, List.getElem_cons_succ, Act.put, List.setIfInBounds_toArray, List.set_cons_zero, List.set_cons_succ])
        refine wpAnyH_done (by kernel_rfl) ?_ _
        clear hHeld9
        go_wp2_with fail
        go_meet
        case rel => exact ⟨_, _, rfl, HZ.out.drop⟩
    case rest =>
      obtain ⟨Az, cz, rfl, hez⟩ := hcut
      have HZ := Lib.hid hez
      clear hez HE4
      have HH : Hid (([112, 100, 115, 116] ++ enc8 seed) ++ enc4 step ++ enc1 ps.length = encH seed step ps.length) := Lib.hid (by unfold encH; simp)
      rw [HH.out] at HZ
      generalize hbh : encH seed step ps.length = bh at HZ
      have HBH := Lib.hid hbh
      have HBL : Hid (bh.length = 17) := Lib.hid (by rw [← hbh]; exact length_encH _ _ _)
      have hkz := Lib.hid HZ.out.get
      have lz := hkz.out.lt
      have m0 := hkz.out.cell 0
      have m1 := hkz.out.cell 1
      have m2 := hkz.out.cell 2
      simp only [List.getElem?_cons_zero, List.getElem?_cons_succ] at m0 m1 m2
      clear hbh HH
      go_wp2_with fail
      clear m0 m1 m2 hkz lz
      go_loopw [4, 35] (fun v i wr => ∃ (j n : Nat) (A' : Option Addr) (c' : Nat), j ≤ ps.length ∧ i = .int .i64 j ∧ v = .slice A' n c' ∧ Hid (EB w wr A' n c' (bh ++ ((ps.map (·.c)).take j).flatMap encP) [])) (fun _ i _ => ps.length - (intOf i).toNat)
      case atStart => exact ⟨0, 17, Az, cz, by omega, rfl, rfl, Lib.hid (by rw [List.take_zero, List.flatMap_nil, List.append_nil]; exact HZ.out.none_)⟩
      case round =>
        obtain ⟨j, n, A', c', hj, rfl, rfl, HE⟩ := hrel
        clear HZ
        by_cases hlt : j < ps.length
        · obtain ⟨g, o, cq, p, e1, hpk, hok, hg, q0, q1, q2, q3, q4, q5, q6⟩ := (HX.out.below (HE.out.bel.mono hB)).at_ hlt
          injection e1 with e1 _ e3
          subst e1 e3
          have hmp := HMS.out.2.2 p (List.mem_of_getElem? hpk)
          have HSM := Lib.hid (mayC_small hmp)
          have HWD := Lib.hid (mayC_wd hmp)
          have HNX := Lib.hid (flat_take encP (l := ps.map (·.c)) (k := j) (x := p.c) (by rw [List.getElem?_map, hpk]; rfl))
          have ln : n + 1000000 ≤ 140737488355328 := by
            have h0 := HE.out.len
            have h1 := length_encPs (cs := (ps.map (·.c)).take j) (fun c hc => by
              obtain ⟨q, hq, rfl⟩ := List.mem_map.1 (List.mem_of_mem_take hc)
              exact HMS.out.2.2 q hq)
            have h2 := HMS.out.2.1
            rw [List.length_take, List.length_map] at h1
            have h3 := HBL.out
            have : min j ps.length * 50000 ≤ 12 * 50000 := Nat.mul_le_mul_right _ (by omega)
            rw [List.length_append] at h0
            omega
          generalize hb : bh ++ ((ps.map (·.c)).take j).flatMap encP = bs at HE
          have HBS := Lib.hid hb
          obtain ⟨pwd, pwx, pmv, pbd, pbx, pc⟩ := p
          obtain ⟨A1, c1, A2, c2, f1, f2⟩ := hok.t.form
          obtain ⟨A3, c3, f3, _, _⟩ := hok.m.form
          obtain ⟨A4, c4, A5, c5, f4, f5⟩ := hok.b.form
          rw [length_ints] at f3
          dsimp only at f1 f2 f3 f4 f5 q0 q1 q2 q3 q4 q5 q6 HSM HNX HWD
          subst f1 f2 f3 f4 f5
          have hsz2 := HE.out.bel.size
          have gw : g < wr.heap.size := by omega
          have HE1 := Lib.hid (HE.out.box [.slice A1 pc.wd.length c1, .int .i64 pc.we, .slice A2 pc.wx.length c2, .slice A3 pc.m.length c3, .slice A4 pc.bd.length c4, .int .i64 pc.be, .slice A5 pc.bx.length c5] 43)
          have hok0 := HX.out.ok.out _ (List.mem_of_getElem? hpk)
          have HOK : Hid (∀ W, Below w.heap.size w W → ParV.Ok W B ⟨.slice A1 pc.wd.length c1, .slice A2 pc.wx.length c2, .slice A3 pc.m.length c3, .slice A4 pc.bd.length c4, .slice A5 pc.bx.length c5, pc⟩) := Lib.hid (fun W hW => hok0.below (hW.mono hB))
          have i1 : (0 : Int) ≤ (j : Int) := by omega
          have i2 : (j : Int) < (ps.length : Int) := by omega
          clear hpk hok hmp hb hok0 HE
          go_upto_region 8 with fail
          clear q0 q1 q2 q3 q4 q5 q6
          generalize (wr.alloc (.cells #[.slice A1 pc.wd.length c1, .int .i64 pc.we, .slice A2 pc.wx.length c2, .slice A3 pc.m.length c3, .slice A4 pc.bd.length c4, .int .i64 pc.be, .slice A5 pc.bx.length c5] 43)) = wa at HE1 ⊢
          generalize wr.heap.size = q at HE1 hsz2 gw ⊢
          have HW2 := Lib.hid (HE1.out.box [.int .u8 (IntKind.u8.wrap (pc.wd.length : Int))] 5)
          have HRW : Hid (Reads (wa.alloc (.cells #[.int .u8 (IntKind.u8.wrap (pc.wd.length : Int))] 5)) (wa.heap.size + 1) (.slice (some ⟨wa.heap.size, 0, none⟩) 1 1) (bytesV (enc1 pc.wd.length))) := Lib.hid (by rw [enc1_cell]; exact HW2.out.get.one)
          have kx := Lib.hid HE1.out.get
          have m0 := kx.out.cell 0
          have m1 := kx.out.cell 1
          have m2 := kx.out.cell 2
          have m3 := kx.out.cell 3
          have m4 := kx.out.cell 4
          have m5 := kx.out.cell 5
          have m6 := kx.out.cell 6
          simp only [List.getElem?_cons_zero, List.getElem?_cons_succ] at m0 m1 m2 m3 m4 m5 m6
          have lx := kx.out.lt
          have HN1 : Hid (n + 1 + 999999 ≤ 140737488355328) := Lib.hid (by omega)
          go_upto_region 9 with (at_builtin; refine wpList_extend elem_byte _ rfl (.tmp 39) (.tmp 45) rfl w.heap.size n _ _ rfl HW2.out.own _ _ (bytesV (enc1 pc.wd.length)) rfl HRW.out (bytesV_one _) (by rw [length_bytesV, length_enc1]; unfold maxLen; omega) (by rw [length_bytesV, length_enc1]; omega) HW2.out.bel.size ?_; intro A6 c6 w6 hown6 hg6 hf6; simp only [length_bytesV, length_enc1] at hown6 hf6 ⊢; have HE6 := Lib.hid (HW2.out.grow hown6 hg6 hf6 (length_enc1 _)).drop; clear hown6 hg6 hf6 HW2 HRW HE1 kx lx m0 m1 m2 m3 m4 m5 m6; have kx := Lib.hid HE6.out.get; have lx := kx.out.lt; have m0 := kx.out.cell 0; have m1 := kx.out.cell 1; have m2 := kx.out.cell 2; have m3 := kx.out.cell 3; simp only [List.getElem?_cons_zero, List.getElem?_cons_succ] at m0 m1 m2 m3)
          rcases Nat.eq_zero_or_pos pc.wd.length with hz | hz2
          · have hz1 : (pc.wd.length : Int) = 0 := by omega
            go_wp2_with fail
            have HP : Hid (encP pc = enc1 pc.wd.length) := Lib.hid (by
              have hzp : zeroP pc = true := by
                cases h9 : zeroP pc with
                | true => rfl
                | false => have := HWD.out h9; omega
              unfold encP
              rw [hzp, if_pos rfl, List.append_nil])
            go_roundw
            case rel => exact ⟨j + 1, n + 1, A6, c6, by omega, by go_num, rfl, by
              rw [HNX.out, ← List.append_assoc, HBS.out, HP.out]
              exact Lib.hid HE6.out.none_⟩
            case measure => simp [intOf]; omega
          · have hz : ¬ pc.wd.length = 0 := by omega
            have hz1 : ¬ (pc.wd.length : Int) = 0 := by omega
            go_wp2_with fail
            have HRZ : Hid (zeroP pc = false) := Lib.hid (by
              cases h9 : zeroP pc with
              | false => rfl
              | true => exact absurd (by rw [zeroP_eq.1 h9]; rfl) hz)
            have HP : Hid (encP pc = enc1 pc.wd.length ++ encR pc) := Lib.hid (by unfold encP; rw [HRZ.out, if_neg (by decide)])
            have HBD := Lib.hid (HSM.out.2.2.2.2.2 HRZ.out)
            clear m0 m1 m2 m3 lx kx
            generalize hb1 : bs ++ enc1 pc.wd.length = b1 at HE6
            have HB1 := Lib.hid hb1
            clear hb1
            have hw4 := HSM.out.1
            go_loopw [4, 56] (fun v i wr => ∃ (m n2 : Nat) (A' : Option Addr) (c' : Nat), m ≤ pc.wd.length ∧ i = .int .i64 m ∧ v = .slice A' n2 c' ∧ Hid (n2 = n + 1 + 2 * m) ∧ Hid (EB w wr A' n2 c' (b1 ++ (pc.wd.take m).flatMap enc2) [(q, 43, [.slice A1 pc.wd.length c1, .int .i64 pc.we, .slice A2 pc.wx.length c2, .slice A3 pc.m.length c3, .slice A4 pc.bd.length c4, .int .i64 pc.be, .slice A5 pc.bx.length c5])])) (fun _ i _ => pc.wd.length - (intOf i).toNat)
            case atStart => exact ⟨0, _, _, _, by omega, rfl, rfl, Lib.hid rfl, Lib.hid (by rw [List.take_zero, List.flatMap_nil, List.append_nil]; exact HE6.out)⟩
            case round =>
              obtain ⟨m, n2, A7, c7, hm, rfl, rfl, hn2, HE9⟩ := hrel
              clear HE6
              by_cases hlt9 : m < pc.wd.length
              · have hyb := (HOK.out _ HE9.out.bel).t.db
                obtain ⟨_, _, _, e7, l7, f7, m7, at7⟩ := (HOK.out _ HE9.out.bel).t.d
                dsimp only at e7 l7 hyb
                injection e7 with e7 e8 e9
                subst e7 e8 e9
                obtain ⟨g7, o7, hA7, hg7, hx7⟩ := at7.out (by omega)
                subst hA7
                have k7 := hx7 m (.int .i64 pc.wd[m]) (by simp [ints, hlt9])
                have hsz7 := HE9.out.bel.size
                have a7 : g7 < wr.heap.size := by omega
                have HN7 := Lib.hid (flat_take enc2 (List.getElem?_eq_getElem hlt9))
                have i7 : (0 : Int) ≤ (m : Int) := by omega
                have j7 : (m : Int) < (pc.wd.length : Int) := by omega
                have ln7 : n2 + 2 ≤ 140737488355328 := by have := hn2.out; omega
                obtain ⟨y0, y1⟩ := hyb.out _ (List.getElem_mem hlt9)
                generalize pc.wd[m] = y at k7 HN7 y0 y1
                have HUy := Lib.hid (fun W => HU2.out y W y0 y1)
                clear at7 hx7 l7 f7 m7 y0 y1 hyb
                go_wp2_with fail
                refine (HUy.out _).mono ?_
                rintro en wb ⟨Ab, cb, rfl, hownb, hbb⟩
                have HSb := Lib.hid (HE9.out.below hbb)
                have HRb := Lib.hid (Reads.of_own hownb)
                rw [length_enc2] at HRb ⊢
                clear hownb hbb HE9 HUy
                go_wp2_with (at_builtin; refine wpList_extend elem_byte _ rfl (.tmp 60) (.tmp 62) rfl w.heap.size n2 _ _ rfl HSb.out.own _ _ (bytesV (enc2 y)) rfl HRb.out (bytesV_one _) (by rw [length_bytesV, length_enc2]; unfold maxLen; omega) (by rw [length_bytesV, length_enc2]; omega) HSb.out.bel.size ?_; intro A8 c8 w8 hown8 hg8 hf8; simp only [length_bytesV, length_enc2] at hown8 hf8 ⊢; have HE8 := Lib.hid (HSb.out.grow hown8 hg8 hf8 (length_enc2 _)); clear hown8 hg8 hf8 HSb HRb)
                go_roundw
                case rel => exact ⟨m + 1, n2 + 2, A8, c8, by omega, by go_num, rfl, Lib.hid (by have := hn2.out; omega), by rw [HN7.out, ← List.append_assoc]; exact HE8⟩
                case measure => simp [intOf]; omega
              · obtain rfl : m = pc.wd.length := by omega
                rw [List.take_length] at HE9
                generalize hb2 : b1 ++ pc.wd.flatMap enc2 = b2 at HE9
                have HB2' := Lib.hid hb2
                have hsm2 := HSM.out.2.1
                have ln2 : n2 + 900000 ≤ 140737488355328 := by have := hn2.out; omega
                have HWX : Hid (∀ W, Below w.heap.size w W → Calls Try.prog 22 #[.slice A2 pc.wx.length c2] W (NewBytes W (pc.wx.flatMap enc1))) := Lib.hid (fun W hW => rsmall_any pc.wx _ W B (by have := hW.size; omega) (HOK.out _ hW).t.x (by omega))
                clear hlt9 hb2
                go_upto_region 15 with fail
                have HEd := Lib.hid HE9.out.drew
                refine wp_region_held_drew (S := ((fun w' => Blk w' q 43 [.slice A1 pc.wd.length c1, .int .i64 pc.we, .slice A2 pc.wx.length c2, .slice A3 pc.m.length c3, .slice A4 pc.bd.length c4, .int .i64 pc.be, .slice A5 pc.bx.length c5]))) (by kernel_rfl) (HEd.out.get) (fun hHeld => ?_)
                clear HE9
                generalize wr.drew = wd at HEd hHeld ⊢
                refine' wpAnyH_take (i := 0) (v := _) rfl (by kernel_rfl) (by kernel_rfl) (by kernel_rfl) (fun _ _ _ h => h) (Or.inl ⟨by rfl, ?taq12⟩) (by assumption) ?tbq12
                case taq12 =>
                  intro wS hSw
                  (try dsimp only at hSw)
                  (have m0 := hSw.cell 0; have m1 := hSw.cell 1; have m2 := hSw.cell 2; have m3 := hSw.cell 3; have lk := hSw.lt; simp only [List.getElem?_cons_zero, List.getElem?_cons_succ] at m0 m1 m2 m3; clear hSw; go_simp)
                  (try (with_reducible rfl))
                (try simp only [List.getElem_toArray, List.getElem_cons_zero, List.getElem_cons_succ, Act.put, List.setIfInBounds_toArray, List.set_cons_zero, List.set_cons_succ])
                refine' wpAnyH_take (i := 1) (v := _) rfl (by kernel_rfl) (by kernel_rfl) (by kernel_rfl) (fun _ _ _ h => h) (Or.inl ⟨by rfl, ?taq13⟩) (by assumption) ?tbq13
                case taq13 =>
                  intro wS hSw
                  (try dsimp only at hSw)
                  (have m0 := hSw.cell 0; have m1 := hSw.cell 1; have m2 := hSw.cell 2; have m3 := hSw.cell 3; have lk := hSw.lt; simp only [List.getElem?_cons_zero, List.getElem?_cons_succ] at m0 m1 m2 m3; clear hSw; go_simp)
                  (try (with_reducible rfl))
                (try simp only [List.getElem_toArray, List.getElem_cons_zero, List.getElem_cons_succ, Act.put, List.setIfInBounds_toArray, List.set_cons_zero, List.set_cons_succ])
                refine' wpAnyH_take (i := 2) (v := _) rfl (by kernel_rfl) (by kernel_rfl) (by kernel_rfl) (fun _ _ _ h => h) (Or.inl ⟨by rfl, ?taq14⟩) (by assumption) ?tbq14
                case taq14 =>
                  intro wS hSw
                  (try dsimp only at hSw)
                  (have m0 := hSw.cell 0; have m1 := hSw.cell 1; have m2 := hSw.cell 2; have m3 := hSw.cell 3; have lk := hSw.lt; simp only [List.getElem?_cons_zero, List.getElem?_cons_succ] at m0 m1 m2 m3; clear hSw; go_simp)
                  (try (with_reducible rfl))
                (try simp only [List.getElem_toArray, List.getElem_cons_zero, List.getElem_cons_succ, Act.put, List.setIfInBounds_toArray, List.set_cons_zero, List.set_cons_succ])
                refine' wpAnyH_take (i := 3) (v := _) rfl (by kernel_rfl) (by kernel_rfl) (by kernel_rfl) (fun _ _ _ h => h) (Or.inl ⟨by rfl, ?taq15⟩) (by assumption) ?tbq15
                case taq15 =>
                  intro wS hSw
                  (try dsimp only at hSw)
                  (have m0 := hSw.cell 0; have m1 := hSw.cell 1; have m2 := hSw.cell 2; have m3 := hSw.cell 3; have lk := hSw.lt; simp only [List.getElem?_cons_zero, List.getElem?_cons_succ] at m0 m1 m2 m3; clear hSw; go_simp)
                  (try (with_reducible rfl))
                (try simp only [List.getElem_toArray, List.getElem_cons_zero, List.getElem_cons_succ, Act.put, List.setIfInBounds_toArray, List.set_cons_zero, List.set_cons_succ])
                refine' wpAnyH_take (i := 4) (v := _) rfl (by kernel_rfl) (by kernel_rfl) (by kernel_rfl) (fun _ _ _ h => h) (Or.inl ⟨by rfl, ?taq16⟩) (by assumption) ?tbq16
                case taq16 =>
                  intro wS hSw
                  (try dsimp only at hSw)
                  (have m0 := hSw.cell 0; have m1 := hSw.cell 1; have m2 := hSw.cell 2; have m3 := hSw.cell 3; have lk := hSw.lt; simp only [List.getElem?_cons_zero, List.getElem?_cons_succ] at m0 m1 m2 m3; clear hSw; go_simp)
                  (try (with_reducible rfl))
                (try simp only [List.getElem_toArray, List.getElem_cons_zero, List.getElem_cons_succ, Act.put, List.setIfInBounds_toArray, List.set_cons_zero, List.set_cons_succ])
                refine' wpAnyH_take (i := 7) (v := _) rfl (by kernel_rfl) (by kernel_rfl) (by kernel_rfl) (fun _ _ _ h => h) (Or.inl ⟨by rfl, ?taq17⟩) (by assumption) ?tbq17
                case taq17 =>
                  intro wS hSw
                  (try dsimp only at hSw)
                  (have m0 := hSw.cell 0; have m1 := hSw.cell 1; have m2 := hSw.cell 2; have m3 := hSw.cell 3; have lk := hSw.lt; simp only [List.getElem?_cons_zero, List.getElem?_cons_succ] at m0 m1 m2 m3; clear hSw; go_simp)
                  (try (with_reducible rfl))
                (try simp only [List.getElem_toArray, List.getElem_cons_zero, List.getElem_cons_succ, Act.put, List.setIfInBounds_toArray, List.set_cons_zero, List.set_cons_succ])
                refine' wpAnyH_take (i := 8) (v := _) rfl (by kernel_rfl) (by kernel_rfl) (by kernel_rfl) (fun _ _ _ h => h) (Or.inl ⟨by rfl, ?taq18⟩) (by assumption) ?tbq18
                case taq18 =>
                  intro wS hSw
                  (try dsimp only at hSw)
                  (have m0 := hSw.cell 0; have m1 := hSw.cell 1; have m2 := hSw.cell 2; have m3 := hSw.cell 3; have lk := hSw.lt; simp only [List.getElem?_cons_zero, List.getElem?_cons_succ] at m0 m1 m2 m3; clear hSw; go_simp)
                  (try (with_reducible rfl))
                (try simp only [List.getElem_toArray, List.getElem_cons_zero, List.getElem_cons_succ, Act.put, List.setIfInBounds_toArray, List.set_cons_zero, List.set_cons_succ])
                refine' wpAnyH_take (i := 9) (v := _) rfl (by kernel_rfl) (by kernel_rfl) (by kernel_rfl) (fun _ _ _ h => h) (Or.inl ⟨by rfl, ?taq19⟩) (by assumption) ?tbq19
                case taq19 =>
                  intro wS hSw
                  (try dsimp only at hSw)
                  (have m0 := hSw.cell 0; have m1 := hSw.cell 1; have m2 := hSw.cell 2; have m3 := hSw.cell 3; have lk := hSw.lt; simp only [List.getElem?_cons_zero, List.getElem?_cons_succ] at m0 m1 m2 m3; clear hSw; go_simp)
                  (try (with_reducible rfl))
                (try simp only [List.getElem_toArray, List.getElem_cons_zero, List.getElem_cons_succ, Act.put, List.setIfInBounds_toArray, List.set_cons_zero, List.set_cons_succ])
                refine wpAnyH_ready (rs := [5]) (by kernel_rfl) (by simp) ?_
                refine AllReadyH.cons rfl (fun K9 hK9 => ?_) AllReadyH.nil
                have H5 := Lib.hid (HEd.out.box [.int .u8 (IntKind.u8.wrap pc.we)] 5)
                (try simp only [List.getElem_toArray, List.getElem_cons_zero, List.getElem_cons_succ])
                go_simp
                refine hK9.out _ _ (H5.out.get2) (fun hHeld9 => ?_)
                clear hK9 K9
                (try simp only [List.getElem_toArray, List.getElem_cons_zero, List.getElem_cons_succ, Act.put, List.setIfInBounds_toArray, List.set_cons_zero, List.set_cons_succ])
                refine wpAnyH_ready (rs := [6]) (by kernel_rfl) (by simp) ?_
                refine AllReadyH.cons rfl (fun K9 hK9 => ?_) AllReadyH.nil
                (try simp only [List.getElem_toArray, List.getElem_cons_zero, List.getElem_cons_succ])
                rw [if_pos (by rfl)]
                refine wp_extend elem_byte _ _ _ (by rfl) w.heap.size n2 _ _ (by rfl) H5.out.own _ _ (bytesV (enc1 pc.we)) (by rfl) (by rw [enc1_cell]; exact H5.out.get.one) (bytesV_one _) (by rw [length_bytesV, length_enc1]; unfold maxLen; omega) (by rw [length_bytesV, length_enc1]; omega) H5.out.bel.size ?_
                intro Ae ce we howne hge hfe
                simp only [length_bytesV, length_enc1] at howne hfe ⊢
                have H6 := Lib.hid (H5.out.grow howne hge hfe (by rw [length_enc1]))
                clear howne hge hfe
                refine hK9.out _ _ (H6.out.get2) (fun hHeld9 => ?_)
                clear hK9 K9
                (try simp only [List.getElem_toArray, List.getElem_cons_zero, List.getElem_cons_succ, Act.put, List.setIfInBounds_toArray, List.set_cons_zero, List.set_cons_succ])
                refine wpAnyH_ready (rs := [10]) (by kernel_rfl) (by simp) ?_
                refine AllReadyH.cons rfl (fun K9 hK9 => ?_) AllReadyH.nil
                (try simp only [List.getElem_toArray, List.getElem_cons_zero, List.getElem_cons_succ])
                go_simp
                refine (HWX.out _ H6.out.bel).mono ?_
                rintro en wf ⟨Af, cf, rfl, hownf, hbf⟩
                have H7 := Lib.hid (H6.out.below hbf)
                have HRf := Lib.hid (Reads.of_own hownf)
                rw [lf1] at HRf ⊢
                clear hownf hbf
                (try clear hHeld)
                refine hK9.out _ _ (H7.out.get2) (fun hHeld9 => ?_)
                clear hK9 K9
                (try simp only [List.getElem_toArray, List.getElem_cons_zero, List.getElem_cons_succ, Act.put, List.setIfInBounds_toArray, List.set_cons_zero, List.set_cons_succ])
                refine wpAnyH_ready (rs := [11]) (by kernel_rfl) (by simp) ?_
                refine AllReadyH.cons rfl (fun K9 hK9 => ?_) AllReadyH.nil
                (try simp only [List.getElem_toArray, List.getElem_cons_zero, List.getElem_cons_succ])
                rw [if_pos (by rfl)]
                refine wp_extend elem_byte _ _ _ (by rfl) w.heap.size (n2 + 1) _ _ (by rfl) H7.out.own _ _ (bytesV (pc.wx.flatMap enc1)) (by rfl) (HRf.out) (bytesV_one _) (by rw [length_bytesV, lf1]; unfold maxLen; omega) (by rw [length_bytesV, lf1]; omega) H7.out.bel.size ?_
                intro Ah ch wh hownh hgh hfh
                simp only [length_bytesV, lf1] at hownh hfh ⊢
                have H8 := Lib.hid (H7.out.grow hownh hgh hfh (by rw [lf1]))
                clear hownh hgh hfh
                refine hK9.out _ _ (H8.out.get2) (fun hHeld9 => ?_)
                clear hK9 K9
                (try simp only [List.getElem_toArray, List.getElem_cons_zero, List.getElem_cons_succ, Act.put, List.setIfInBounds_toArray, List.set_cons_zero, List.set_cons_succ])
                refine' wpAnyH_take (i := 12) (v := _) rfl (by kernel_rfl) (by kernel_rfl) (by kernel_rfl) (fun _ _ _ h => h) (Or.inl ⟨by rfl, ?taq20⟩) (by assumption) ?tbq20
                case taq20 =>
                  intro wS hSw
                  (try dsimp only at hSw)
                  go_simp
                  (try (with_reducible rfl))
                (try simp only [List.getElem_toArray, List.getElem_cons_zero, List.getElem_cons_succ, Act.put, List.setIfInBounds_toArray, List.set_cons_zero, List.set_cons_succ])
                refine wpAnyH_done (by kernel_rfl) ?_ _
                clear hHeld9 HEd H5 H6 H7 HRf
                have HE10 := Lib.hid (H8.out.drop.cong (new := b2 ++ encT pc.we pc.wx) (by unfold encT; simp only [List.append_assoc]))
                clear H8
                generalize hb3 : b2 ++ encT pc.we pc.wx = b3 at HE10
                have HB3 := Lib.hid hb3
                have kx := Lib.hid HE10.out.get
                have lx := kx.out.lt
                have m0 := kx.out.cell 0
                have m1 := kx.out.cell 1
                have m2 := kx.out.cell 2
                have m3 := kx.out.cell 3
                simp only [List.getElem?_cons_zero, List.getElem?_cons_succ] at m0 m1 m2 m3
                clear hb3
                have hm8 := HSM.out.2.2.1
                go_wp2_with fail
                clear m0 m1 m2 m3 kx lx
                simp only [IntKind.wrap_u8]
                go_loopw [4, 80] (fun v i wr => ∃ (m n3 : Nat) (A' : Option Addr) (c' : Nat), m ≤ pc.m.length ∧ i = .int .i64 m ∧ v = .slice A' n3 c' ∧ Hid (n3 = n2 + 1 + pc.wx.length + 4 * m) ∧ Hid (EB w wr A' n3 c' (b3 ++ (pc.m.take m).flatMap enc4) [(q, 43, [.slice A1 pc.wd.length c1, .int .i64 pc.we, .slice A2 pc.wx.length c2, .slice A3 pc.m.length c3, .slice A4 pc.bd.length c4, .int .i64 pc.be, .slice A5 pc.bx.length c5])])) (fun _ i _ => pc.m.length - (intOf i).toNat)
                case atStart => exact ⟨0, _, _, _, by omega, rfl, rfl, Lib.hid rfl, Lib.hid (by rw [List.take_zero, List.flatMap_nil, List.append_nil]; exact HE10.out)⟩
                case round =>
                  obtain ⟨m, n3, A9, c9, hm9, rfl, rfl, hn3, HE9⟩ := hrel
                  clear HE10
                  by_cases hlt9 : m < pc.m.length
                  · obtain ⟨_, _, _, e7, l7, f7, m7, at7⟩ := (HOK.out _ HE9.out.bel).m
                    dsimp only at e7 l7
                    injection e7 with e7 e8 e9
                    subst e7 e8 e9
                    obtain ⟨g7, o7, hA7, hg7, hx7⟩ := at7.out (by omega)
                    subst hA7
                    have k7 := hx7 m (.int .i32 pc.m[m]) (by simp [ints, hlt9])
                    have hsz7 := HE9.out.bel.size
                    have a7 : g7 < wr.heap.size := by omega
                    have HN7 := Lib.hid (flat_take enc4 (List.getElem?_eq_getElem hlt9))
                    have i7 : (0 : Int) ≤ (m : Int) := by omega
                    have j7 : (m : Int) < (pc.m.length : Int) := by omega
                    have ln7 : n3 + 4 ≤ 140737488355328 := by have := hn3.out; omega
                    generalize pc.m[m] = y at k7 HN7
                    clear at7 hx7 l7 f7 m7
                    go_wp2_with fail
                    refine (HU4.out y _).mono ?_
                    rintro en wb ⟨Ab, cb, rfl, hownb, hbb⟩
                    have HSb := Lib.hid (HE9.out.below hbb)
                    have HRb := Lib.hid (Reads.of_own hownb)
                    rw [length_enc4] at HRb ⊢
                    clear hownb hbb HE9
                    go_wp2_with (at_builtin; refine wpList_extend elem_byte _ rfl (.tmp 84) (.tmp 87) rfl w.heap.size n3 _ _ rfl HSb.out.own _ _ (bytesV (enc4 y)) rfl HRb.out (bytesV_one _) (by rw [length_bytesV, length_enc4]; unfold maxLen; omega) (by rw [length_bytesV, length_enc4]; omega) HSb.out.bel.size ?_; intro A8 c8 w8 hown8 hg8 hf8; simp only [length_bytesV, length_enc4] at hown8 hf8 ⊢; have HE8 := Lib.hid (HSb.out.grow hown8 hg8 hf8 (length_enc4 _)); clear hown8 hg8 hf8 HSb HRb)
                    go_roundw
                    case rel =>
                      exact ⟨m + 1, n3 + 4, A8, c8, by omega, by go_num, rfl, Lib.hid (by have := hn3.out; omega), by rw [HN7.out, ← List.append_assoc]; exact HE8⟩
                    case measure => simp [intOf]; omega
                  · obtain rfl : m = pc.m.length := by omega
                    rw [List.take_length] at HE9
                    generalize hb4 : b3 ++ pc.m.flatMap enc4 = b4 at HE9
                    have HB4 := Lib.hid hb4
                    have hsz9 := HE9.out.bel.size
                    have hyb := (HOK.out _ HE9.out.bel).b.db
                    have hat := (HOK.out _ (Below.refl w.heap.size w)).b.d
                    obtain ⟨y, hy⟩ : ∃ y, pc.bd = [y] := by
                      have := HBD.out
                      match h : pc.bd, this with
                      | [y], _ => exact ⟨y, rfl⟩
                    dsimp only at hat hyb
                    obtain ⟨y0, y1⟩ := hyb.out y (by rw [hy]; exact List.mem_cons_self)
                    have HUy := Lib.hid (fun W => HU2.out y W y0 y1)
                    have HHD : Hid (pc.bd.headD 0 = y) := Lib.hid (by rw [hy]; rfl)
                    have hb1 := HBD.out
                    obtain ⟨_, _, _, e7, l7, f7, m7, at7⟩ := hat
                    injection e7 with e7 e8 e9
                    subst e7 e8 e9
                    obtain ⟨g7, o7, hA7, hg7, hx7⟩ := at7.out (by omega)
                    subst hA7
                    have k7 := hx7 0 (.int .i64 y) (by rw [hy]; rfl)
                    rw [Nat.add_zero] at k7
                    have a7 : g7 < w.heap.size := by omega
                    have HCE : Hid (∀ W, Below w.heap.size w W → W.cell? ⟨g7, o7, none⟩ = some (.int .i64 y)) := Lib.hid (fun W hW => (hW.cell (p := ⟨g7, o7, none⟩) a7).trans k7)
                    have hsm5 := HSM.out.2.2.2.2.1
                    have HBX : Hid (∀ W, Below w.heap.size w W → Calls Try.prog 22 #[.slice A5 pc.bx.length c5] W (NewBytes W (pc.bx.flatMap enc1))) := Lib.hid (fun W hW => rsmall_any pc.bx _ W B (by have := hW.size; omega) (HOK.out _ hW).b.x (by omega))
                    have j7 : 0 < pc.bd.length := by omega
                    have j8 : (0 : Int) < (pc.bd.length : Int) := by omega
                    have ln9 : n3 + 20000 ≤ 140737488355328 := by have := hn3.out; omega
                    clear at7 hx7 l7 f7 m7 hlt9 hb4 hy hyb y0 y1 k7 hb1
                    go_upto_region 21 with fail
                    have HEd := Lib.hid HE9.out.drew
                    refine wp_region_held_drew (S := ((fun w' => Blk w' q 43 [.slice A1 pc.wd.length c1, .int .i64 pc.we, .slice A2 pc.wx.length c2, .slice A3 pc.m.length c3, .slice (some ⟨g7, o7, none⟩) pc.bd.length c4, .int .i64 pc.be, .slice A5 pc.bx.length c5] ∧ w'.cell? ⟨g7, o7, none⟩ = some (.int .i64 y)))) (by kernel_rfl) (⟨HEd.out.get, HCE.out _ HEd.out.bel⟩) (fun hHeld => ?_)
                    clear HE9
                    generalize wr.drew = wd at HEd hHeld ⊢
                    have ld := HEd.out.bel.size
                    refine' wpAnyH_take (i := 0) (v := _) rfl (by kernel_rfl) (by kernel_rfl) (by kernel_rfl) (fun _ _ _ h => h) (Or.inl ⟨by rfl, ?taq21⟩) (by assumption) ?tbq21
                    case taq21 =>
                      intro wS hSw
                      (try dsimp only at hSw)
                      (have m4 := hSw.1.cell 4; have m5 := hSw.1.cell 5; have m6 := hSw.1.cell 6; have lk := hSw.1.lt; have ck := hSw.2; simp only [List.getElem?_cons_zero, List.getElem?_cons_succ] at m4 m5 m6; clear hSw; go_simp)
                      (try (with_reducible rfl))
                    (try simp only [List.getElem_toArray, List.getElem_cons_zero, List.getElem_cons_succ, Act.put, List.setIfInBounds_toArray, List.set_cons_zero, List.set_cons_succ])
                    refine' wpAnyH_take (i := 1) (v := _) rfl (by kernel_rfl) (by kernel_rfl) (by kernel_rfl) (fun _ _ _ h => h) (Or.inl ⟨by rfl, ?taq22⟩) (by assumption) ?tbq22
                    case taq22 =>
                      intro wS hSw
                      (try dsimp only at hSw)
                      (have m4 := hSw.1.cell 4; have m5 := hSw.1.cell 5; have m6 := hSw.1.cell 6; have lk := hSw.1.lt; have ck := hSw.2; simp only [List.getElem?_cons_zero, List.getElem?_cons_succ] at m4 m5 m6; clear hSw; go_simp)
                      (try (with_reducible rfl))
                    (try simp only [List.getElem_toArray, List.getElem_cons_zero, List.getElem_cons_succ, Act.put, List.setIfInBounds_toArray, List.set_cons_zero, List.set_cons_succ])
                    refine' wpAnyH_take (i := 2) (v := _) rfl (by kernel_rfl) (by kernel_rfl) (by kernel_rfl) (fun _ _ _ h => h) (Or.inl ⟨by rfl, ?taq23⟩) (by assumption) ?tbq23
                    case taq23 =>
                      intro wS hSw
                      (try dsimp only at hSw)
                      (have m4 := hSw.1.cell 4; have m5 := hSw.1.cell 5; have m6 := hSw.1.cell 6; have lk := hSw.1.lt; have ck := hSw.2; simp only [List.getElem?_cons_zero, List.getElem?_cons_succ] at m4 m5 m6; clear hSw; go_simp)
                      (try (with_reducible rfl))
                    (try simp only [List.getElem_toArray, List.getElem_cons_zero, List.getElem_cons_succ, Act.put, List.setIfInBounds_toArray, List.set_cons_zero, List.set_cons_succ])
                    refine' wpAnyH_take (i := 3) (v := _) rfl (by kernel_rfl) (by kernel_rfl) (by kernel_rfl) (fun _ _ _ h => h) (Or.inl ⟨by rfl, ?taq24⟩) (by assumption) ?tbq24
                    case taq24 =>
                      intro wS hSw
                      (try dsimp only at hSw)
                      (have m4 := hSw.1.cell 4; have m5 := hSw.1.cell 5; have m6 := hSw.1.cell 6; have lk := hSw.1.lt; have ck := hSw.2; simp only [List.getElem?_cons_zero, List.getElem?_cons_succ] at m4 m5 m6; clear hSw; go_simp)
                      (try (with_reducible rfl))
                    (try simp only [List.getElem_toArray, List.getElem_cons_zero, List.getElem_cons_succ, Act.put, List.setIfInBounds_toArray, List.set_cons_zero, List.set_cons_succ])
                    refine' wpAnyH_take (i := 4) (v := _) rfl (by kernel_rfl) (by kernel_rfl) (by kernel_rfl) (fun _ _ _ h => h) (Or.inl ⟨by rfl, ?taq25⟩) (by assumption) ?tbq25
                    case taq25 =>
                      intro wS hSw
                      (try dsimp only at hSw)
                      (have m4 := hSw.1.cell 4; have m5 := hSw.1.cell 5; have m6 := hSw.1.cell 6; have lk := hSw.1.lt; have ck := hSw.2; simp only [List.getElem?_cons_zero, List.getElem?_cons_succ] at m4 m5 m6; clear hSw; go_simp)
                      (try (with_reducible rfl))
                    (try simp only [List.getElem_toArray, List.getElem_cons_zero, List.getElem_cons_succ, Act.put, List.setIfInBounds_toArray, List.set_cons_zero, List.set_cons_succ])
                    refine' wpAnyH_take (i := 5) (v := _) rfl (by kernel_rfl) (by kernel_rfl) (by kernel_rfl) (fun _ _ _ h => h) (Or.inl ⟨by rfl, ?taq26⟩) (by assumption) ?tbq26
                    case taq26 =>
                      intro wS hSw
                      (try dsimp only at hSw)
                      (have m4 := hSw.1.cell 4; have m5 := hSw.1.cell 5; have m6 := hSw.1.cell 6; have lk := hSw.1.lt; have ck := hSw.2; simp only [List.getElem?_cons_zero, List.getElem?_cons_succ] at m4 m5 m6; clear hSw; go_simp)
                      (try (with_reducible rfl))
                    (try simp only [List.getElem_toArray, List.getElem_cons_zero, List.getElem_cons_succ, Act.put, List.setIfInBounds_toArray, List.set_cons_zero, List.set_cons_succ])
                    refine' wpAnyH_take (i := 8) (v := _) rfl (by kernel_rfl) (by kernel_rfl) (by kernel_rfl) (fun _ _ _ h => h) (Or.inl ⟨by rfl, ?taq27⟩) (by assumption) ?tbq27
                    case taq27 =>
                      intro wS hSw
                      (try dsimp only at hSw)
                      (have m4 := hSw.1.cell 4; have m5 := hSw.1.cell 5; have m6 := hSw.1.cell 6; have lk := hSw.1.lt; have ck := hSw.2; simp only [List.getElem?_cons_zero, List.getElem?_cons_succ] at m4 m5 m6; clear hSw; go_simp)
                      (try (with_reducible rfl))
                    (try simp only [List.getElem_toArray, List.getElem_cons_zero, List.getElem_cons_succ, Act.put, List.setIfInBounds_toArray, List.set_cons_zero, List.set_cons_succ])
                    refine' wpAnyH_take (i := 9) (v := _) rfl (by kernel_rfl) (by kernel_rfl) (by kernel_rfl) (fun _ _ _ h => h) (Or.inl ⟨by rfl, ?taq28⟩) (by assumption) ?tbq28
                    case taq28 =>
                      intro wS hSw
                      (try dsimp only at hSw)
                      (have m4 := hSw.1.cell 4; have m5 := hSw.1.cell 5; have m6 := hSw.1.cell 6; have lk := hSw.1.lt; have ck := hSw.2; simp only [List.getElem?_cons_zero, List.getElem?_cons_succ] at m4 m5 m6; clear hSw; go_simp)
                      (try (with_reducible rfl))
                    (try simp only [List.getElem_toArray, List.getElem_cons_zero, List.getElem_cons_succ, Act.put, List.setIfInBounds_toArray, List.set_cons_zero, List.set_cons_succ])
                    refine' wpAnyH_take (i := 10) (v := _) rfl (by kernel_rfl) (by kernel_rfl) (by kernel_rfl) (fun _ _ _ h => h) (Or.inl ⟨by rfl, ?taq29⟩) (by assumption) ?tbq29
                    case taq29 =>
                      intro wS hSw
                      (try dsimp only at hSw)
                      (have m4 := hSw.1.cell 4; have m5 := hSw.1.cell 5; have m6 := hSw.1.cell 6; have lk := hSw.1.lt; have ck := hSw.2; simp only [List.getElem?_cons_zero, List.getElem?_cons_succ] at m4 m5 m6; clear hSw; go_simp)
                      (try (with_reducible rfl))
                    (try simp only [List.getElem_toArray, List.getElem_cons_zero, List.getElem_cons_succ, Act.put, List.setIfInBounds_toArray, List.set_cons_zero, List.set_cons_succ])
                    refine' wpAnyH_take (i := 11) (v := _) rfl (by kernel_rfl) (by kernel_rfl) (by kernel_rfl) (fun _ _ _ h => h) (Or.inl ⟨by rfl, ?taq30⟩) (by assumption) ?tbq30
                    case taq30 =>
                      intro wS hSw
                      (try dsimp only at hSw)
                      (have m4 := hSw.1.cell 4; have m5 := hSw.1.cell 5; have m6 := hSw.1.cell 6; have lk := hSw.1.lt; have ck := hSw.2; simp only [List.getElem?_cons_zero, List.getElem?_cons_succ] at m4 m5 m6; clear hSw; go_simp)
                      (try (with_reducible rfl))
                    (try simp only [List.getElem_toArray, List.getElem_cons_zero, List.getElem_cons_succ, Act.put, List.setIfInBounds_toArray, List.set_cons_zero, List.set_cons_succ])
                    refine' wpAnyH_take (i := 14) (v := _) rfl (by kernel_rfl) (by kernel_rfl) (by kernel_rfl) (fun _ _ _ h => h) (Or.inl ⟨by rfl, ?taq31⟩) (by assumption) ?tbq31
                    case taq31 =>
                      intro wS hSw
                      (try dsimp only at hSw)
                      (have m4 := hSw.1.cell 4; have m5 := hSw.1.cell 5; have m6 := hSw.1.cell 6; have lk := hSw.1.lt; have ck := hSw.2; simp only [List.getElem?_cons_zero, List.getElem?_cons_succ] at m4 m5 m6; clear hSw; go_simp)
                      (try (with_reducible rfl))
                    (try simp only [List.getElem_toArray, List.getElem_cons_zero, List.getElem_cons_succ, Act.put, List.setIfInBounds_toArray, List.set_cons_zero, List.set_cons_succ])
                    refine' wpAnyH_take (i := 15) (v := _) rfl (by kernel_rfl) (by kernel_rfl) (by kernel_rfl) (fun _ _ _ h => h) (Or.inl ⟨by rfl, ?taq32⟩) (by assumption) ?tbq32
                    case taq32 =>
                      intro wS hSw
                      (try dsimp only at hSw)
                      (have m4 := hSw.1.cell 4; have m5 := hSw.1.cell 5; have m6 := hSw.1.cell 6; have lk := hSw.1.lt; have ck := hSw.2; simp only [List.getElem?_cons_zero, List.getElem?_cons_succ] at m4 m5 m6; clear hSw; go_simp)
                      (try (with_reducible rfl))
                    (try simp only [List.getElem_toArray, List.getElem_cons_zero, List.getElem_cons_succ, Act.put, List.setIfInBounds_toArray, List.set_cons_zero, List.set_cons_succ])
                    refine' wpAnyH_take (i := 16) (v := _) rfl (by kernel_rfl) (by kernel_rfl) (by kernel_rfl) (fun _ _ _ h => h) (Or.inl ⟨by rfl, ?taq33⟩) (by assumption) ?tbq33
                    case taq33 =>
                      intro wS hSw
                      (try dsimp only at hSw)
                      (have m4 := hSw.1.cell 4; have m5 := hSw.1.cell 5; have m6 := hSw.1.cell 6; have lk := hSw.1.lt; have ck := hSw.2; simp only [List.getElem?_cons_zero, List.getElem?_cons_succ] at m4 m5 m6; clear hSw; go_simp)
                      (try (with_reducible rfl))
                    (try simp only [List.getElem_toArray, List.getElem_cons_zero, List.getElem_cons_succ, Act.put, List.setIfInBounds_toArray, List.set_cons_zero, List.set_cons_succ])
                    refine wpAnyH_ready (rs := [6, 12]) (by kernel_rfl) (by simp) ?_
                    refine AllReadyH.cons rfl (fun K9 hK9 => ?_) (AllReadyH.cons rfl (fun K9 hK9 => ?_) AllReadyH.nil)
                    ·
                      (try simp only [List.getElem_toArray, List.getElem_cons_zero, List.getElem_cons_succ])
                      go_simp
                      refine (HUy.out _).mono ?_
                      rintro en we ⟨Ae, ce, rfl, howne, hbe⟩
                      have H5 := Lib.hid (HEd.out.below hbe)
                      have HRe := Lib.hid (Reads.of_own howne)
                      rw [length_enc2] at HRe ⊢
                      clear howne hbe
                      (try clear hHeld)
                      refine hK9.out _ _ (⟨H5.out.get, HCE.out _ H5.out.bel⟩) (fun hHeld9 => ?_)
                      clear hK9 K9
                      (try simp only [List.getElem_toArray, List.getElem_cons_zero, List.getElem_cons_succ, Act.put, List.setIfInBounds_toArray, List.set_cons_zero, List.set_cons_succ])
                      refine wpAnyH_ready (rs := [7, 12]) (by kernel_rfl) (by simp) ?_
                      refine AllReadyH.cons rfl (fun K9 hK9 => ?_) (AllReadyH.cons rfl (fun K9 hK9 => ?_) AllReadyH.nil)
                      ·
                        (try simp only [List.getElem_toArray, List.getElem_cons_zero, List.getElem_cons_succ])
                        rw [if_pos (by rfl)]
                        refine wp_extend elem_byte _ _ _ (by rfl) w.heap.size n3 _ _ (by rfl) H5.out.own _ _ (bytesV (enc2 y)) (by rfl) (HRe.out) (bytesV_one _) (by rw [length_bytesV, length_enc2]; unfold maxLen; omega) (by rw [length_bytesV, length_enc2]; omega) H5.out.bel.size ?_
                        intro Af cf wf hownf hgf hff
                        simp only [length_bytesV, length_enc2] at hownf hff ⊢
                        have H6 := Lib.hid (H5.out.grow hownf hgf hff (by rw [length_enc2]))
                        clear hownf hgf hff
                        refine hK9.out _ _ (⟨H6.out.get, HCE.out _ H6.out.bel⟩) (fun hHeld9 => ?_)
                        clear hK9 K9
                        (try simp only [List.getElem_toArray, List.getElem_cons_zero, List.getElem_cons_succ, Act.put, List.setIfInBounds_toArray, List.set_cons_zero, List.set_cons_succ])
                        refine wpAnyH_ready (rs := [12]) (by kernel_rfl) (by simp) ?_
                        refine AllReadyH.cons rfl (fun K9 hK9 => ?_) AllReadyH.nil
                        have H7 := Lib.hid (H6.out.box [.int .u8 (IntKind.u8.wrap pc.be)] 5)
                        (try simp only [List.getElem_toArray, List.getElem_cons_zero, List.getElem_cons_succ])
                        go_simp
                        refine hK9.out _ _ (⟨H7.out.get2, HCE.out _ H7.out.bel⟩) (fun hHeld9 => ?_)
                        clear hK9 K9
                        (try simp only [List.getElem_toArray, List.getElem_cons_zero, List.getElem_cons_succ, Act.put, List.setIfInBounds_toArray, List.set_cons_zero, List.set_cons_succ])
                        refine wpAnyH_ready (rs := [13]) (by kernel_rfl) (by simp) ?_
                        refine AllReadyH.cons rfl (fun K9 hK9 => ?_) AllReadyH.nil
                        (try simp only [List.getElem_toArray, List.getElem_cons_zero, List.getElem_cons_succ])
                        rw [if_pos (by rfl)]
                        refine wp_extend elem_byte _ _ _ (by rfl) w.heap.size (n3 + 2) _ _ (by rfl) H7.out.own _ _ (bytesV (enc1 pc.be)) (by rfl) (by rw [enc1_cell]; exact H7.out.get.one) (bytesV_one _) (by rw [length_bytesV, length_enc1]; unfold maxLen; omega) (by rw [length_bytesV, length_enc1]; omega) H7.out.bel.size ?_
                        intro Ax cx wx hownx hgx hfx
                        simp only [length_bytesV, length_enc1] at hownx hfx ⊢
                        have HX1 := Lib.hid (H7.out.grow hownx hgx hfx (by rw [length_enc1]))
                        clear hownx hgx hfx
                        refine hK9.out _ _ (⟨HX1.out.get2, HCE.out _ HX1.out.bel⟩) (fun hHeld9 => ?_)
                        clear hK9 K9
                        (try simp only [List.getElem_toArray, List.getElem_cons_zero, List.getElem_cons_succ, Act.put, List.setIfInBounds_toArray, List.set_cons_zero, List.set_cons_succ])
                        refine wpAnyH_ready (rs := [17]) (by kernel_rfl) (by simp) ?_
                        refine AllReadyH.cons rfl (fun K9 hK9 => ?_) AllReadyH.nil
                        (try simp only [List.getElem_toArray, List.getElem_cons_zero, List.getElem_cons_succ])
                        go_simp
                        refine (HBX.out _ HX1.out.bel).mono ?_
                        rintro en wy ⟨Ay, cy, rfl, howny, hby⟩
                        have HX2 := Lib.hid (HX1.out.below hby)
                        have HRy := Lib.hid (Reads.of_own howny)
                        rw [lf1] at HRy ⊢
                        clear howny hby
                        (try clear hHeld)
                        refine hK9.out _ _ (⟨HX2.out.get2, HCE.out _ HX2.out.bel⟩) (fun hHeld9 => ?_)
                        clear hK9 K9
                        (try simp only [List.getElem_toArray, List.getElem_cons_zero, List.getElem_cons_succ, Act.put, List.setIfInBounds_toArray, List.set_cons_zero, List.set_cons_succ])
                        refine wpAnyH_ready (rs := [18]) (by kernel_rfl) (by simp) ?_
                        refine AllReadyH.cons rfl (fun K9 hK9 => ?_) AllReadyH.nil
                        (try simp only [List.getElem_toArray, List.getElem_cons_zero, List.getElem_cons_succ])
                        rw [if_pos (by rfl)]
                        refine wp_extend elem_byte _ _ _ (by rfl) w.heap.size (n3 + 2 + 1) _ _ (by rfl) HX2.out.own _ _ (bytesV (pc.bx.flatMap enc1)) (by rfl) (HRy.out) (bytesV_one _) (by rw [length_bytesV, lf1]; unfold maxLen; omega) (by rw [length_bytesV, lf1]; omega) HX2.out.bel.size ?_
                        intro Az cz wz hownz hgz hfz
                        simp only [length_bytesV, lf1] at hownz hfz ⊢
                        have HX3 := Lib.hid (HX2.out.grow hownz hgz hfz (by rw [lf1]))
                        clear hownz hgz hfz
                        refine hK9.out _ _ (⟨HX3.out.get2, HCE.out _ HX3.out.bel⟩) (fun hHeld9 => ?_)
                        clear hK9 K9
                        (try simp only [List.getElem_toArray, List.getElem_cons_zero, List.getElem_cons_succ, Act.put, List.setIfInBounds_toArray, List.set_cons_zero, List.set_cons_succ])
                        refine' wpAnyH_take (i := 19) (v := _) rfl (by kernel_rfl) (by kernel_rfl) (by kernel_rfl) (fun _ _ _ h => h) (Or.inl ⟨by rfl, ?taq34⟩) (by assumption) ?tbq34
                        case taq34 =>
                          intro wS hSw
                          (try dsimp only at hSw)
                          go_simp
                          (try (with_reducible rfl))
                        (try simp only [List.getElem_toArray, List.getElem_cons_zero, List.getElem_cons_succ, Act.put, List.setIfInBounds_toArray, List.set_cons_zero, List.set_cons_succ])
                        refine wpAnyH_done (by kernel_rfl) ?_ _
                        clear hHeld9
                        have HEc := Lib.hid HX3.out.none_
                        clear HX3 HX2 HX1 HRy
                        go_wp2
                        go_roundw
                        case rel => exact ⟨j + 1, _, _, _, by omega, by go_num, rfl, by
                          have he : bh ++ ((ps.map (·.c)).take (j + 1)).flatMap encP = b4 ++ enc2 y ++ enc1 pc.be ++ pc.bx.flatMap enc1 := by
                            rw [HNX.out, ← List.append_assoc, HBS.out, HP.out, ← List.append_assoc, HB1.out]
                            unfold encR
                            rw [HHD.out, ← HB4.out, ← HB3.out, ← HB2'.out]
                            unfold encT
                            simp only [List.append_assoc]
                          rw [he]
                          exact HEc⟩
                        case measure => simp [intOf]; omega
                      ·
                        have H6 := Lib.hid (H5.out.box [.int .u8 (IntKind.u8.wrap pc.be)] 5)
                        (try simp only [List.getElem_toArray, List.getElem_cons_zero, List.getElem_cons_succ])
                        go_simp
                        refine hK9.out _ _ (⟨H6.out.get2, HCE.out _ H6.out.bel⟩) (fun hHeld9 => ?_)
                        clear hK9 K9
                        (try simp only [List.getElem_toArray, List.getElem_cons_zero, List.getElem_cons_succ, Act.put, List.setIfInBounds_toArray, List.set_cons_zero, List.set_cons_succ])
                        refine wpAnyH_ready (rs := [7]) (by kernel_rfl) (by simp) ?_
                        refine AllReadyH.cons rfl (fun K9 hK9 => ?_) AllReadyH.nil
                        (try simp only [List.getElem_toArray, List.getElem_cons_zero, List.getElem_cons_succ])
                        rw [if_pos (by rfl)]
                        refine wp_extend elem_byte _ _ _ (by rfl) w.heap.size n3 _ _ (by rfl) H6.out.own _ _ (bytesV (enc2 y)) (by rfl) (HRe.out.alloc (by simp) _) (bytesV_one _) (by rw [length_bytesV, length_enc2]; unfold maxLen; omega) (by rw [length_bytesV, length_enc2]; omega) H6.out.bel.size ?_
                        intro Af cf wf hownf hgf hff
                        simp only [length_bytesV, length_enc2] at hownf hff ⊢
                        have H7 := Lib.hid (H6.out.grow hownf hgf hff (by rw [length_enc2]))
                        clear hownf hgf hff
                        refine hK9.out _ _ (⟨H7.out.get2, HCE.out _ H7.out.bel⟩) (fun hHeld9 => ?_)
                        clear hK9 K9
                        (try simp only [List.getElem_toArray, List.getElem_cons_zero, List.getElem_cons_succ, Act.put, List.setIfInBounds_toArray, List.set_cons_zero, List.set_cons_succ])
                        refine wpAnyH_ready (rs := [13]) (by kernel_rfl) (by simp) ?_
                        refine AllReadyH.cons rfl (fun K9 hK9 => ?_) AllReadyH.nil
                        (try simp only [List.getElem_toArray, List.getElem_cons_zero, List.getElem_cons_succ])
                        rw [if_pos (by rfl)]
                        refine wp_extend elem_byte _ _ _ (by rfl) w.heap.size (n3 + 2) _ _ (by rfl) H7.out.own _ _ (bytesV (enc1 pc.be)) (by rfl) (by rw [enc1_cell]; exact H7.out.get.one) (bytesV_one _) (by rw [length_bytesV, length_enc1]; unfold maxLen; omega) (by rw [length_bytesV, length_enc1]; omega) H7.out.bel.size ?_
                        intro Ax cx wx hownx hgx hfx
                        simp only [length_bytesV, length_enc1] at hownx hfx ⊢
                        have HX1 := Lib.hid (H7.out.grow hownx hgx hfx (by rw [length_enc1]))
                        clear hownx hgx hfx
                        refine hK9.out _ _ (⟨HX1.out.get2, HCE.out _ HX1.out.bel⟩) (fun hHeld9 => ?_)
                        clear hK9 K9
                        (try simp only [List.getElem_toArray, List.getElem_cons_zero, List.getElem_cons_succ, Act.put, List.setIfInBounds_toArray, List.set_cons_zero, List.set_cons_succ])
                        refine wpAnyH_ready (rs := [17]) (by kernel_rfl) (by simp) ?_
                        refine AllReadyH.cons rfl (fun K9 hK9 => ?_) AllReadyH.nil
                        (try simp only [List.getElem_toArray, List.getElem_cons_zero, List.getElem_cons_succ])
                        go_simp
                        refine (HBX.out _ HX1.out.bel).mono ?_
                        rintro en wy ⟨Ay, cy, rfl, howny, hby⟩
                        have HX2 := Lib.hid (HX1.out.below hby)
                        have HRy := Lib.hid (Reads.of_own howny)
                        rw [lf1] at HRy ⊢
                        clear howny hby
                        (try clear hHeld)
                        refine hK9.out _ _ (⟨HX2.out.get2, HCE.out _ HX2.out.bel⟩) (fun hHeld9 => ?_)
                        clear hK9 K9
                        (try simp only [List.getElem_toArray, List.getElem_cons_zero, List.getElem_cons_succ, Act.put, List.setIfInBounds_toArray, List.set_cons_zero, List.set_cons_succ])
                        refine wpAnyH_ready (rs := [18]) (by kernel_rfl) (by simp) ?_
                        refine AllReadyH.cons rfl (fun K9 hK9 => ?_) AllReadyH.nil
                        (try simp only [List.getElem_toArray, List.getElem_cons_zero, List.getElem_cons_succ])
                        rw [if_pos (by rfl)]
                        refine wp_extend elem_byte _ _ _ (by rfl) w.heap.size (n3 + 2 + 1) _ _ (by rfl) HX2.out.own _ _ (bytesV (pc.bx.flatMap enc1)) (by rfl) (HRy.out) (bytesV_one _) (by rw [length_bytesV, lf1]; unfold maxLen; omega) (by rw [length_bytesV, lf1]; omega) HX2.out.bel.size ?_
                        intro Az cz wz hownz hgz hfz
                        simp only [length_bytesV, lf1] at hownz hfz ⊢
                        have HX3 := Lib.hid (HX2.out.grow hownz hgz hfz (by rw [lf1]))
                        clear hownz hgz hfz
                        refine hK9.out _ _ (⟨HX3.out.get2, HCE.out _ HX3.out.bel⟩) (fun hHeld9 => ?_)
                        clear hK9 K9
                        (try simp only [List.getElem_toArray, List.getElem_cons_zero, List.getElem_cons_succ, Act.put, List.setIfInBounds_toArray, List.set_cons_zero, List.set_cons_succ])
                        refine' wpAnyH_take (i := 19) (v := _) rfl (by kernel_rfl) (by kernel_rfl) (by kernel_rfl) (fun _ _ _ h => h) (Or.inl ⟨by rfl, ?taq35⟩) (by assumption) ?tbq35
                        case taq35 =>
                          intro wS hSw
                          (try dsimp only at hSw)
                          go_simp
                          (try (with_reducible rfl))
                        (try simp only [List.getElem_toArray, List.getElem_cons_zero, List.getElem_cons_succ, Act.put, List.setIfInBounds_toArray, List.set_cons_zero, List.set_cons_succ])
                        refine wpAnyH_done (by kernel_rfl) ?_ _
                        clear hHeld9
                        have HEc := Lib.hid HX3.out.none_
                        clear HX3 HX2 HX1 HRy
                        go_wp2
                        go_roundw
                        case rel => exact ⟨j + 1, _, _, _, by omega, by go_num, rfl, by
                          have he : bh ++ ((ps.map (·.c)).take (j + 1)).flatMap encP = b4 ++ enc2 y ++ enc1 pc.be ++ pc.bx.flatMap enc1 := by
                            rw [HNX.out, ← List.append_assoc, HBS.out, HP.out, ← List.append_assoc, HB1.out]
                            unfold encR
                            rw [HHD.out, ← HB4.out, ← HB3.out, ← HB2'.out]
                            unfold encT
                            simp only [List.append_assoc]
                          rw [he]
                          exact HEc⟩
                        case measure => simp [intOf]; omega
                    ·
                      have H5 := Lib.hid (HEd.out.box [.int .u8 (IntKind.u8.wrap pc.be)] 5)
                      (try simp only [List.getElem_toArray, List.getElem_cons_zero, List.getElem_cons_succ])
                      go_simp
                      refine hK9.out _ _ (⟨H5.out.get2, HCE.out _ H5.out.bel⟩) (fun hHeld9 => ?_)
                      clear hK9 K9
                      (try simp only [List.getElem_toArray, List.getElem_cons_zero, List.getElem_cons_succ, Act.put, List.setIfInBounds_toArray, List.set_cons_zero, List.set_cons_succ])
                      refine wpAnyH_ready (rs := [6]) (by kernel_rfl) (by simp) ?_
                      refine AllReadyH.cons rfl (fun K9 hK9 => ?_) AllReadyH.nil
                      (try simp only [List.getElem_toArray, List.getElem_cons_zero, List.getElem_cons_succ])
                      go_simp
                      refine (HUy.out _).mono ?_
                      rintro en we ⟨Ae, ce, rfl, howne, hbe⟩
                      have H6 := Lib.hid (H5.out.below hbe)
                      have HRe := Lib.hid (Reads.of_own howne)
                      rw [length_enc2] at HRe ⊢
                      clear howne hbe
                      (try clear hHeld)
                      refine hK9.out _ _ (⟨H6.out.get2, HCE.out _ H6.out.bel⟩) (fun hHeld9 => ?_)
                      clear hK9 K9
                      (try simp only [List.getElem_toArray, List.getElem_cons_zero, List.getElem_cons_succ, Act.put, List.setIfInBounds_toArray, List.set_cons_zero, List.set_cons_succ])
                      refine wpAnyH_ready (rs := [7]) (by kernel_rfl) (by simp) ?_
                      refine AllReadyH.cons rfl (fun K9 hK9 => ?_) AllReadyH.nil
                      (try simp only [List.getElem_toArray, List.getElem_cons_zero, List.getElem_cons_succ])
                      rw [if_pos (by rfl)]
                      refine wp_extend elem_byte _ _ _ (by rfl) w.heap.size n3 _ _ (by rfl) H6.out.own _ _ (bytesV (enc2 y)) (by rfl) (HRe.out) (bytesV_one _) (by rw [length_bytesV, length_enc2]; unfold maxLen; omega) (by rw [length_bytesV, length_enc2]; omega) H6.out.bel.size ?_
                      intro Af cf wf hownf hgf hff
                      simp only [length_bytesV, length_enc2] at hownf hff ⊢
                      have H7 := Lib.hid (H6.out.grow hownf hgf hff (by rw [length_enc2]))
                      clear hownf hgf hff
                      refine hK9.out _ _ (⟨H7.out.get2, HCE.out _ H7.out.bel⟩) (fun hHeld9 => ?_)
                      clear hK9 K9
                      (try simp only [List.getElem_toArray, List.getElem_cons_zero, List.getElem_cons_succ, Act.put, List.setIfInBounds_toArray, List.set_cons_zero, List.set_cons_succ])
                      refine wpAnyH_ready (rs := [13]) (by kernel_rfl) (by simp) ?_
                      refine AllReadyH.cons rfl (fun K9 hK9 => ?_) AllReadyH.nil
                      (try simp only [List.getElem_toArray, List.getElem_cons_zero, List.getElem_cons_succ])
                      rw [if_pos (by rfl)]
                      refine wp_extend elem_byte _ _ _ (by rfl) w.heap.size (n3 + 2) _ _ (by rfl) H7.out.own _ _ (bytesV (enc1 pc.be)) (by rfl) (by rw [enc1_cell]; exact H7.out.get.one) (bytesV_one _) (by rw [length_bytesV, length_enc1]; unfold maxLen; omega) (by rw [length_bytesV, length_enc1]; omega) H7.out.bel.size ?_
                      intro Ax cx wx hownx hgx hfx
                      simp only [length_bytesV, length_enc1] at hownx hfx ⊢
                      have HX1 := Lib.hid (H7.out.grow hownx hgx hfx (by rw [length_enc1]))
                      clear hownx hgx hfx
                      refine hK9.out _ _ (⟨HX1.out.get2, HCE.out _ HX1.out.bel⟩) (fun hHeld9 => ?_)
                      clear hK9 K9
                      (try simp only [List.getElem_toArray, List.getElem_cons_zero, List.getElem_cons_succ, Act.put, List.setIfInBounds_toArray, List.set_cons_zero, List.set_cons_succ])
                      refine wpAnyH_ready (rs := [17]) (by kernel_rfl) (by simp) ?_
                      refine AllReadyH.cons rfl (fun K9 hK9 => ?_) AllReadyH.nil
                      (try simp only [List.getElem_toArray, List.getElem_cons_zero, List.getElem_cons_succ])
                      go_simp
                      refine (HBX.out _ HX1.out.bel).mono ?_
                      rintro en wy ⟨Ay, cy, rfl, howny, hby⟩
                      have HX2 := Lib.hid (HX1.out.below hby)
                      have HRy := Lib.hid (Reads.of_own howny)
                      rw [lf1] at HRy ⊢
                      clear howny hby
                      (try clear hHeld)
                      refine hK9.out _ _ (⟨HX2.out.get2, HCE.out _ HX2.out.bel⟩) (fun hHeld9 => ?_)
                      clear hK9 K9
                      (try simp only [List.getElem_toArray, List.getElem_cons_zero, List.getElem_cons_succ, Act.put, List.setIfInBounds_toArray, List.set_cons_zero, List.set_cons_succ])
                      refine wpAnyH_ready (rs := [18]) (by kernel_rfl) (by simp) ?_
                      refine AllReadyH.cons rfl (fun K9 hK9 => ?_) AllReadyH.nil
                      (try simp only [List.getElem_toArray, List.getElem_cons_zero, List.getElem_cons_succ])
                      rw [if_pos (by rfl)]
                      refine wp_extend elem_byte _ _ _ (by rfl) w.heap.size (n3 + 2 + 1) _ _ (by rfl) HX2.out.own _ _ (bytesV (pc.bx.flatMap enc1)) (by rfl) (HRy.out) (bytesV_one _) (by rw [length_bytesV, lf1]; unfold maxLen; omega) (by rw [length_bytesV, lf1]; omega) HX2.out.bel.size ?_
                      intro Az cz wz hownz hgz hfz
                      simp only [length_bytesV, lf1] at hownz hfz ⊢
                      have HX3 := Lib.hid (HX2.out.grow hownz hgz hfz (by rw [lf1]))
                      clear hownz hgz hfz
                      refine hK9.out _ _ (⟨HX3.out.get2, HCE.out _ HX3.out.bel⟩) (fun hHeld9 => ?_)
                      clear hK9 K9
                      (try simp only [List.getElem_toArray, List.getElem_cons_zero, List.getElem_cons_succ, Act.put, List.setIfInBounds_toArray, List.set_cons_zero, List.set_cons_succ])
                      refine' wpAnyH_take (i := 19) (v := _) rfl (by kernel_rfl) (by kernel_rfl) (by kernel_rfl) (fun _ _ _ h => h) (Or.inl ⟨by rfl, ?taq36⟩) (by assumption) ?tbq36
                      case taq36 =>
                        intro wS hSw
                        (try dsimp only at hSw)
                        go_simp
                        (try (with_reducible rfl))
                      (try simp only [List.getElem_toArray, List.getElem_cons_zero, List.getElem_cons_succ, Act.put, List.setIfInBounds_toArray, List.set_cons_zero, List.set_cons_succ])
                      refine wpAnyH_done (by kernel_rfl) ?_ _
                      clear hHeld9
                      have HEc := Lib.hid HX3.out.none_
                      clear HX3 HX2 HX1 HRy
                      go_wp2
                      go_roundw
                      case rel => exact ⟨j + 1, _, _, _, by omega, by go_num, rfl, by
                        have he : bh ++ ((ps.map (·.c)).take (j + 1)).flatMap encP = b4 ++ enc2 y ++ enc1 pc.be ++ pc.bx.flatMap enc1 := by
                          rw [HNX.out, ← List.append_assoc, HBS.out, HP.out, ← List.append_assoc, HB1.out]
                          unfold encR
                          rw [HHD.out, ← HB4.out, ← HB3.out, ← HB2'.out]
                          unfold encT
                          simp only [List.append_assoc]
                        rw [he]
                        exact HEc⟩
                      case measure => simp [intOf]; omega
        · obtain rfl : j = ps.length := by omega
          rw [List.take_of_length_le (by simp)] at HE
          have HEQ : Hid (bh ++ (ps.map (·.c)).flatMap encP = encS ⟨seed, step, .slice A ps.length k, ps⟩) := Lib.hid (by rw [← HBH.out]; unfold encS encC; rw [List.length_map])
          rw [HEQ.out] at HE
          obtain rfl := HE.out.len
          go_wp2_with fail
          go_ret2
          exact ⟨HE.out.bel, .inr ⟨HR.out, A', c', rfl, HE.out.own⟩⟩
end Go.Proofs.Ytcjpibdgnjncmaa
