/- Contract of journal.Journal's write. -/
import Derived.Test.YtjddplddpdcmdaaJrOpen
import Derived.Deep.RegionHeld3
import Derived.Deep.DrawnRows
namespace Go.Proofs.Ytjddplddpdcmdaa
open Go.RowKit
set_option linter.unusedVariables false
set_option linter.unusedSimpArgs false

section
variable {w0 w W W' : World} {ds ds' : List (Nat × Dk)} {bs bs' : List (Nat × TypeId × List Value)} {rs rs' rs0 : List (Nat × Value × List Value)} {d q g k n : Nat} {s s' : Dk} {j j' : Jr} {v u : Value} {t : TypeId} {cs : List Value}
theorem bytesV_zeros (k : Nat) : bytesV (List.replicate k 0) = List.replicate k (.int .u8 0) := by simp [bytesV]
theorem Dk.write_len (s : Dk) (i : Int) (b : List UInt8) : (s.write i b).1.now.length = s.now.length := by
  unfold Dk.write
  split
  · split
    · rfl
    · simp [Dk.wrote, Dk.oper]
  · rfl
theorem padJ_len (b : List UInt8) : (padJ b).length = secsN b.length * 64 := by
  unfold padJ
  rw [List.length_append, List.length_replicate]
  unfold secsN
  omega
theorem chunkJ_len (b : List UInt8) {i : Nat} (h : i < secsN b.length) : (chunkJ b i).length = 64 := by
  unfold chunkJ
  rw [List.length_take, List.length_drop, padJ_len]
  omega
/-- a part of a reading whose address is known -/
theorem part_of {S : Nat → Prop} {w : World} {g o n c a b : Nat} {xs : List UInt8} (h : ReadsIn 1 S w (.slice (some ⟨g, o, none⟩) n c) (bytesV xs)) (hab : a ≤ b) (hb : b ≤ n) : ReadsIn 1 S w (.slice (some ⟨g, o + a, none⟩) (b - a) (c - a)) (bytesV ((xs.drop a).take (b - a))) := by
  obtain ⟨A', n', c', e, hl, hc, hm, ha⟩ := h
  injection e with e1 e2 e3
  subst e1 e2 e3
  rw [length_bytesV] at hl
  refine ⟨_, _, _, rfl, by rw [length_bytesV, List.length_take, List.length_drop]; omega, by omega, by omega, fun hn => ?_⟩
  obtain ⟨g', o', e, hs, hg, hx⟩ := ha.out (by omega)
  injection e with e
  injection e with e1 e2
  subst e1 e2
  refine ⟨g, o + a, rfl, hs, hg, fun i u hu => ?_⟩
  rw [← bytesV_take, ← bytesV_drop, List.getElem?_take] at hu
  split at hu
  · rw [List.getElem?_drop] at hu
    rw [Nat.add_assoc]
    exact hx _ _ hu
  · cases hu
set_option maxHeartbeats 6400000 in
set_option maxRecDepth 100000 in
theorem jwrite_any (h : JD w0 W ds d s q j bs rs) (ho : s.ops < 900000000) (σ : Nat) (hσ : σ ≤ 1) (gen : Nat) (hg : gen < 4294967296) (v : Value) (b : List UInt8) (ha : ArgM w0 bs rs v b) (hbl : b.length ≤ roomJ j) :
    Calls Try.prog 34 #[.pointer (some ⟨q, 0, none⟩), .int .i64 (σ : Int), .int .u32 (gen : Int), v] W fun en W' => en = .returned (.int .i64 (writeJ s j.half σ gen b).2) ∧ JD w0 W' ds d (writeJ s j.half σ gen b).1 q j bs rs := by
  obtain ⟨lv, hdm, hlv, hok⟩ := h
  have hA := hdm.argReads (ha.mono (bs' := (q, 66, jcells d lv j) :: bs) (fun y hy => .tail _ hy) (fun y hy => hy))
  obtain ⟨Ab, cb, rfl, _, _⟩ := hA.form
  have hb := hdm.blk (.head _)
  have k0 := hb.cell 0
  have k1 := hb.cell 1
  have hq := hb.lt
  simp only [jcells, List.getElem?_cons_zero, List.getElem?_cons_succ] at k0 k1 hq
  obtain ⟨N, hN⟩ : ∃ N, s.now.length = N := ⟨_, rfl⟩
  rw [hN] at hok
  obtain ⟨hf, hhf⟩ : ∃ hf, j.half = hf := ⟨_, rfl⟩
  have h1 := hok.half
  have h2 := hok.four
  have h3 := hok.most
  rw [hhf] at h1 k1
  obtain ⟨f, hfe⟩ : ∃ f, σ * hf = f := ⟨_, rfl⟩
  have hfb : f + hf ≤ N := by
    rcases Nat.le_one_iff_eq_zero_or_eq_one.1 hσ with rfl | rfl <;> omega
  have e1 : ((σ : Int) * (hf : Int)) = (f : Int) := by rw [← hfe]; simp
  have hfl : (f : Int) ≤ 4096 := by omega
  have hf0 : (0 : Int) ≤ (f : Int) := by omega
  obtain ⟨n, hn⟩ : ∃ n, b.length = n := ⟨_, rfl⟩
  have hn1 : n ≤ (hf - 1) * 64 := by have := hbl; unfold roomJ at this; omega
  obtain ⟨m, hm⟩ : ∃ m, secsN n = m := ⟨_, rfl⟩
  have hmb : m + 1 ≤ hf := by rw [← hm]; unfold secsN; omega
  have hnm : n ≤ m * 64 ∧ m * 64 ≤ n + 63 := by rw [← hm]; unfold secsN; omega
  have hm4 : m ≤ 4096 := by omega
  have HW : Hid (writeJ s j.half σ gen b = thenJ (thenJ (thenJ (putsJ b f m 0 s) Dk.flush) (fun s => s.write (f : Int) (headB gen b))) Dk.flush) := Lib.hid (by unfold writeJ; rw [hhf, hfe, hn, hm])
  rw [length_bytesV, hn] at hA ha ⊢
  have HPL : Hid ((padJ b).length = m * 64) := Lib.hid (by rw [padJ_len, hn, hm])
  have HPD : Hid (padJ b = b ++ List.replicate (m * 64 - n) 0) := Lib.hid (by unfold padJ; rw [hn, hm])
  have HCL : Hid (∀ i, i < m → (chunkJ b i).length = 64) := Lib.hid (fun i hi => chunkJ_len b (by rw [hn, hm]; exact hi))
  have HHL := Lib.hid (headB_len gen b)
  have HARG := Lib.hid ha
  have HN := Lib.hid hn
  have HM := Lib.hid hm
  have HD := Lib.hid hdm
  have HLV := Lib.hid hlv
  have HOK := Lib.hid hok
  have HR := Lib.hid hA
  have HG := Lib.hid hg
  have HO := Lib.hid ho
  have HSL : Hid ((writeJ s j.half σ gen b).1.now.length = N) := Lib.hid (by
    rw [← hN]
    unfold writeJ
    have hp : ∀ (k i : Nat) (s : Dk), (putsJ b (σ * j.half) k i s).1.now.length = s.now.length := by
      intro k
      induction k with
      | zero => intro i s; rfl
      | succ k ih =>
        intro i s
        rw [putsJ]
        split
        · exact Dk.write_len _ _ _
        · rw [ih]; exact Dk.write_len _ _ _
    have ht : ∀ (r : Dk × Int) (f : Dk → Dk × Int), (∀ s, (f s).1.now.length = s.now.length) → (thenJ r f).1.now.length = r.1.now.length := by
      intro r f hf
      unfold thenJ
      split
      · rfl
      · exact hf _
    rw [ht _ _ Dk.flush_len, ht _ _ (fun s => Dk.write_len s _ _), ht _ _ Dk.flush_len, hp])
  have HN4 : Hid (n < 4294967296) := Lib.hid (by omega)
  have HNN : Hid (n ≤ 140737488355328) := Lib.hid (by omega)
  have HNM := Lib.hid hnm
  have hmz : ((m : Int) * 64 - (n : Int)) = ((m * 64 - n : Nat) : Int) := by omega
  have hm64 : (m : Int) * 64 ≤ 262144 := by omega
  have hn0 : (n : Int) ≤ (m : Int) * 64 := by omega
  generalize hpz : m * 64 - n = pz at hmz HPD
  have HPZ : Hid (n + pz = m * 64) := Lib.hid (by omega)
  generalize writeJ s j.half σ gen b = rw_ at HW HSL ⊢
  clear hok hdm hlv hA hg ho hN h1 h2 hhf hfe hfb hn hn1 hm hmb hnm hb hσ hbl ha hpz
  go_enter Try.func34, Try.ntmps34
  go_wp2_with fail
  refine (clone_any W W.heap.size _ b HR.out (Nat.le_refl _) (by rw [HN.out]; exact HNN.out)).mono ?_
  rintro en w1 ⟨A1, c1, rfl, hown, hb⟩
  rw [HN.out] at hown ⊢
  have HO1 := Lib.hid hown
  have HB1 := Lib.hid hb
  clear hown hb
  go_wp2_with fail
  refine (jsecs_any w1 n HNN.out).mono ?_
  rw [HM.out]
  rintro en w1' ⟨rfl, rfl⟩
  go_wp2_with (at_builtin; go_loud (refine wpList_zeros elem_byte Try.underlying3 rfl _ rfl (.tmp 22) (.tmp 29) rfl W.heap.size n _ (bytesV b) rfl HO1.out .i64 pz rfl (by rw [HPZ.out]; unfold maxLen; omega) (by rw [HPZ.out]; omega) HB1.out.size ?_); intro A2 c2 w2 hown2 hg2 hf2; rw [HPZ.out] at hown2 hf2 ⊢; have HB2 := Lib.hid (HB1.out.grown hg2 HB1.out.size (fun k hk => (HO1.out.lt k hk).1)); have HO2 : Hid (w2.ownsRow W.heap.size 5 1 (.slice A2 (m * 64) c2) (m * 64) (bytesV (padJ b))) := Lib.hid (by rw [HPD.out, ← bytesV_append, bytesV_zeros]; exact hown2); clear hown2 hg2 hf2)
  clear HO1 HB1 HR
  have hrd : ReadsIn 1 (fun i => W.heap.size ≤ i) w2 (.slice A2 (m * 64) c2) (bytesV (padJ b)) := own_readsIn (by omega) HO2.out (fun i hi => (HO2.out.lt i hi).1)
  have HD2 := Lib.hid (HD.out.read HB2.out hrd)
  have k0' := (HB2.out.cell (p := ⟨q, 0, none⟩) hq).trans k0
  have hq2 : q < w2.heap.size := by have := HB2.out.size; omega
  clear hrd HO2
  go_wp2_with fail
  refine (jsecs_any w2 n HNN.out).mono ?_
  rw [HM.out]
  rintro en w2' ⟨rfl, rfl⟩
  go_wp2
  have HP0 : Hid (putsJ b f m 0 s = putsJ b f (m - 0) 0 s) := Lib.hid rfl
  go_loopw [34] (fun i wr => ∃ (k : Nat) (s' : Dk), k ≤ m ∧ i = .int .i64 k ∧ Hid (putsJ b f m 0 s = putsJ b f (m - k) k s') ∧ Hid (s'.ops ≤ s.ops + k) ∧ Hid (DM w0 wr ((d, s') :: ds) ((q, 66, jcells d lv j) :: bs) ((1, .slice A2 (m * 64) c2, bytesV (padJ b)) :: rs))) (fun i _ => m - (intOf i).toNat)
  case atStart => exact ⟨0, s, by omega, rfl, HP0, Lib.hid (by omega), HD2⟩
  case round =>
    obtain ⟨k, s', hk, rfl, hps, hops, hdm⟩ := hrel
    clear HP0 HD2 k0' hq2
    have hbj : Blk wr q 66 (jcells d lv j) := hdm.out.blk (.head _)
    have HBJ := Lib.hid hbj
    have k0' := hbj.cell 0
    have hqr := hbj.lt
    simp only [jcells, List.getElem?_cons_zero] at k0'
    clear hbj
    by_cases hlt : k < m
    · obtain ⟨A3, n3, c3, e3, hl3, hc3, hm3, ha3⟩ := hdm.out.reads1 (.head _)
      injection e3 with e3 e4 e5
      subst e3 e4 e5
      obtain ⟨ga, oa, rfl, _, _⟩ := ha3.out (by omega)
      have HDP := Lib.hid (hdm.out.part (.head _) (v' := .slice (some ⟨ga, oa + k * 64, none⟩) 64 (c2 - k * 64)) (xs' := bytesV (chunkJ b k)) (sz' := 1) (fun S w hr => by
        have h9 := part_of hr (a := k * 64) (b := (k + 1) * 64) (by omega) (by have := Nat.mul_le_mul_right 64 hlt; omega)
        have h8 : (k + 1) * 64 - k * 64 = 64 := by omega
        rw [h8] at h9
        exact h9))
      clear hl3 ha3
      have i1 : (k : Int) < (m : Int) := by omega
      have hk4 : (k : Int) ≤ 4096 := by omega
      obtain ⟨a, hae⟩ : ∃ a, k * 64 = a := ⟨_, rfl⟩
      have hca : a + 64 ≤ c2 := by omega
      have x1 : IntKind.i64.wrap ((k : Int) * 64) = (a : Int) := by rw [IntKind.wrap_i64]; omega
      have x2 : IntKind.i64.wrap ((k : Int) + 1) = (k : Int) + 1 := by rw [IntKind.wrap_i64]; omega
      have x3 : IntKind.i64.wrap (((k : Int) + 1) * 64) = ((a + 64 : Nat) : Int) := by rw [IntKind.wrap_i64]; omega
      have x4 : IntKind.i64.wrap ((f : Int) + 1) = (f : Int) + 1 := by rw [IntKind.wrap_i64]; omega
      have x5 : IntKind.i64.wrap ((f : Int) + 1 + (k : Int)) = (f : Int) + 1 + (k : Int) := by rw [IntKind.wrap_i64]; omega
      have HCA := Lib.hid hca
      have y1 : ((a + 64 : Nat) : Int) ≤ (c2 : Int) := by omega
      have y2 : (a : Int) ≤ ((a + 64 : Nat) : Int) := by omega
      have y3 : ¬ c2 = a := by omega
      rw [hae] at HDP
      have HAE := Lib.hid hae
      generalize hbe : a + 64 = bq at x3 y1 y2
      have y4 : bq - a = 64 := by omega
      have HBE := Lib.hid hbe
      obtain ⟨⟨sn, en⟩, hwe⟩ : ∃ r, s'.write ((f : Int) + 1 + (k : Int)) (chunkJ b k) = r := ⟨_, rfl⟩
      have hso : sn.ops ≤ s'.ops + 1 := by have := write_ops s' ((f : Int) + 1 + (k : Int)) (chunkJ b k); rwa [hwe] at this
      have HSO : Hid (sn.ops ≤ s.ops + ((k + 1 : Nat) : Int)) := Lib.hid (by have := hops.out; omega)
      have HWE := Lib.hid hwe
      have HPS2 : Hid (putsJ b f m 0 s = if en ≠ 0 then (sn, en) else putsJ b f (m - (k + 1)) (k + 1) sn) := Lib.hid (by
        rw [hps.out, show m - k = (m - (k + 1)) + 1 by omega, putsJ]
        rw [show ((f + 1 + k : Nat) : Int) = (f : Int) + 1 + (k : Int) by omega, hwe])
      have HOB : Hid (s'.ops < 1000000000) := Lib.hid (by have := hops.out; have := HO.out; omega)
      clear hae hca hbe hso hwe hdm
      go_upto_region 6 with fail
      refine wp_region_held_drew (S := (fun w' => Blk w' q 66 (jcells d lv j))) (by kernel_rfl) (HBJ.out.drew) (fun hHeld => ?_)
      refine' wpAnyH_take (i := 0) (v := _) rfl (by kernel_rfl) (by kernel_rfl) (by kernel_rfl) (fun _ _ _ h => h) (Or.inl ⟨by rfl, ?taq9⟩) (by assumption) ?tbq9
      case taq9 =>
        intro wS hSw
        (try dsimp only at hSw)
        (have m0 := hSw.cell 0; simp only [jcells, List.getElem?_cons_zero] at m0; clear hSw; go_simp)
        (try (with_reducible rfl))
      (try simp only [List.getElem_toArray, List.getElem_cons_zero, List.getElem_cons_succ, Act.put, List.setIfInBounds_toArray, List.set_cons_zero, List.set_cons_succ])
      refine' wpAnyH_take (i := 1) (v := _) rfl (by kernel_rfl) (by kernel_rfl) (by kernel_rfl) (fun _ _ _ h => h) (Or.inl ⟨by rfl, ?taq10⟩) (by assumption) ?tbq10
      case taq10 =>
        intro wS hSw
        (try dsimp only at hSw)
        (have m0 := hSw.cell 0; simp only [jcells, List.getElem?_cons_zero] at m0; clear hSw; go_simp)
        (try (with_reducible rfl))
      (try simp only [List.getElem_toArray, List.getElem_cons_zero, List.getElem_cons_succ, Act.put, List.setIfInBounds_toArray, List.set_cons_zero, List.set_cons_succ])
      refine' wpAnyH_take (i := 2) (v := _) rfl (by kernel_rfl) (by kernel_rfl) (by kernel_rfl) (fun _ _ _ h => h) (Or.inl ⟨by rfl, ?taq11⟩) (by assumption) ?tbq11
      case taq11 =>
        intro wS hSw
        (try dsimp only at hSw)
        (have m0 := hSw.cell 0; simp only [jcells, List.getElem?_cons_zero] at m0; clear hSw; go_simp)
        (try (with_reducible rfl))
      (try simp only [List.getElem_toArray, List.getElem_cons_zero, List.getElem_cons_succ, Act.put, List.setIfInBounds_toArray, List.set_cons_zero, List.set_cons_succ])
      refine' wpAnyH_take (i := 3) (v := _) rfl (by kernel_rfl) (by kernel_rfl) (by kernel_rfl) (fun _ _ _ h => h) (Or.inl ⟨by rfl, ?taq12⟩) (by assumption) ?tbq12
      case taq12 =>
        intro wS hSw
        (try dsimp only at hSw)
        (have m0 := hSw.cell 0; simp only [jcells, List.getElem?_cons_zero] at m0; clear hSw; go_simp)
        (try (with_reducible rfl))
      (try simp only [List.getElem_toArray, List.getElem_cons_zero, List.getElem_cons_succ, Act.put, List.setIfInBounds_toArray, List.set_cons_zero, List.set_cons_succ])
      refine' wpAnyH_take (i := 4) (v := _) rfl (by kernel_rfl) (by kernel_rfl) (by kernel_rfl) (fun _ _ _ h => h) (Or.inl ⟨by rfl, ?taq13⟩) (by assumption) ?tbq13
      case taq13 =>
        intro wS hSw
        (try dsimp only at hSw)
        (have m0 := hSw.cell 0; simp only [jcells, List.getElem?_cons_zero] at m0; clear hSw; go_simp)
        (try (with_reducible rfl))
      (try simp only [List.getElem_toArray, List.getElem_cons_zero, List.getElem_cons_succ, Act.put, List.setIfInBounds_toArray, List.set_cons_zero, List.set_cons_succ])
      refine' wpAnyH_take (i := 5) (v := _) rfl (by kernel_rfl) (by kernel_rfl) (by kernel_rfl) (fun _ _ _ h => h) (Or.inl ⟨by rfl, ?taq14⟩) (by assumption) ?tbq14
      case taq14 =>
        intro wS hSw
        (try dsimp only at hSw)
        (have m0 := hSw.cell 0; simp only [jcells, List.getElem?_cons_zero] at m0; clear hSw; go_simp)
        (try (with_reducible rfl))
      (try simp only [List.getElem_toArray, List.getElem_cons_zero, List.getElem_cons_succ, Act.put, List.setIfInBounds_toArray, List.set_cons_zero, List.set_cons_succ])
      refine' wpAnyH_take (i := 6) (v := _) rfl (by kernel_rfl) (by kernel_rfl) (by kernel_rfl) (fun _ _ _ h => h) (Or.inl ⟨by rfl, ?taq15⟩) (by assumption) ?tbq15
      case taq15 =>
        intro wS hSw
        (try dsimp only at hSw)
        (have m0 := hSw.cell 0; simp only [jcells, List.getElem?_cons_zero] at m0; clear hSw; go_simp)
        (try (with_reducible rfl))
      (try simp only [List.getElem_toArray, List.getElem_cons_zero, List.getElem_cons_succ, Act.put, List.setIfInBounds_toArray, List.set_cons_zero, List.set_cons_succ])
      refine' wpAnyH_take (i := 7) (v := _) rfl (by kernel_rfl) (by kernel_rfl) (by kernel_rfl) (fun _ _ _ h => h) (Or.inl ⟨by rfl, ?taq16⟩) (by assumption) ?tbq16
      case taq16 =>
        intro wS hSw
        (try dsimp only at hSw)
        (have m0 := hSw.cell 0; simp only [jcells, List.getElem?_cons_zero] at m0; clear hSw; go_simp)
        (try (with_reducible rfl))
      (try simp only [List.getElem_toArray, List.getElem_cons_zero, List.getElem_cons_succ, Act.put, List.setIfInBounds_toArray, List.set_cons_zero, List.set_cons_succ])
      refine' wpAnyH_take (i := 8) (v := _) rfl (by kernel_rfl) (by kernel_rfl) (by kernel_rfl) (fun _ _ _ h => h) (Or.inl ⟨by rfl, ?taq17⟩) (by assumption) ?tbq17
      case taq17 =>
        intro wS hSw
        (try dsimp only at hSw)
        (have m0 := hSw.cell 0; simp only [jcells, List.getElem?_cons_zero] at m0; clear hSw; go_simp)
        (try (with_reducible rfl))
      (try simp only [List.getElem_toArray, List.getElem_cons_zero, List.getElem_cons_succ, Act.put, List.setIfInBounds_toArray, List.set_cons_zero, List.set_cons_succ])
      refine' wpAnyH_take (i := 9) (v := _) rfl (by kernel_rfl) (by kernel_rfl) (by kernel_rfl) (fun _ _ _ h => h) (Or.inl ⟨by rfl, ?taq18⟩) (by assumption) ?tbq18
      case taq18 =>
        intro wS hSw
        (try dsimp only at hSw)
        (have m0 := hSw.cell 0; simp only [jcells, List.getElem?_cons_zero] at m0; clear hSw; go_simp)
        (try (with_reducible rfl))
      (try simp only [List.getElem_toArray, List.getElem_cons_zero, List.getElem_cons_succ, Act.put, List.setIfInBounds_toArray, List.set_cons_zero, List.set_cons_succ])
      refine' wpAnyH_take (i := 10) (v := _) rfl (by kernel_rfl) (by kernel_rfl) (by kernel_rfl) (fun _ _ _ h => h) (Or.inl ⟨by rfl, ?taq19⟩) (by assumption) ?tbq19
      case taq19 =>
        intro wS hSw
        (try dsimp only at hSw)
        (have m0 := hSw.cell 0; simp only [jcells, List.getElem?_cons_zero] at m0; clear hSw; go_simp)
        (try (with_reducible rfl))
      (try simp only [List.getElem_toArray, List.getElem_cons_zero, List.getElem_cons_succ, Act.put, List.setIfInBounds_toArray, List.set_cons_zero, List.set_cons_succ])
      refine' wpAnyH_take (i := 11) (v := _) rfl (by kernel_rfl) (by kernel_rfl) (by kernel_rfl) (fun _ _ _ h => h) (Or.inl ⟨by rfl, ?taq20⟩) (by assumption) ?tbq20
      case taq20 =>
        intro wS hSw
        (try dsimp only at hSw)
        (have m0 := hSw.cell 0; simp only [jcells, List.getElem?_cons_zero] at m0; clear hSw; go_simp)
        (try (with_reducible rfl))
      (try simp only [List.getElem_toArray, List.getElem_cons_zero, List.getElem_cons_succ, Act.put, List.setIfInBounds_toArray, List.set_cons_zero, List.set_cons_succ])
      refine' wpAnyH_take (i := 12) (v := _) rfl (by kernel_rfl) (by kernel_rfl) (by kernel_rfl) (fun _ _ _ h => h) (Or.inl ⟨by rfl, ?taq21⟩) (by assumption) ?tbq21
      case taq21 =>
        intro wS hSw
        (try dsimp only at hSw)
        (have m0 := hSw.cell 0; simp only [jcells, List.getElem?_cons_zero] at m0; clear hSw; go_simp)
        (try (with_reducible rfl))
      (try simp only [List.getElem_toArray, List.getElem_cons_zero, List.getElem_cons_succ, Act.put, List.setIfInBounds_toArray, List.set_cons_zero, List.set_cons_succ])
      refine' wpAnyH_take (i := 13) (v := _) rfl (by kernel_rfl) (by kernel_rfl) (by kernel_rfl) (fun _ _ _ h => h) (Or.inl ⟨by rfl, ?taq22⟩) (by assumption) ?tbq22
      case taq22 =>
        intro wS hSw
        (try dsimp only at hSw)
        (have m0 := hSw.cell 0; simp only [jcells, List.getElem?_cons_zero] at m0; clear hSw; go_simp)
        (try (with_reducible rfl))
      (try simp only [List.getElem_toArray, List.getElem_cons_zero, List.getElem_cons_succ, Act.put, List.setIfInBounds_toArray, List.set_cons_zero, List.set_cons_succ])
      refine' wpAnyH_take (i := 14) (v := _) rfl (by kernel_rfl) (by kernel_rfl) (by kernel_rfl) (fun _ _ _ h => h) (Or.inl ⟨by rfl, ?taq23⟩) (by assumption) ?tbq23
      case taq23 =>
        intro wS hSw
        (try dsimp only at hSw)
        (have m0 := hSw.cell 0; simp only [jcells, List.getElem?_cons_zero] at m0; clear hSw; go_simp)
        (try (with_reducible rfl))
      (try simp only [List.getElem_toArray, List.getElem_cons_zero, List.getElem_cons_succ, Act.put, List.setIfInBounds_toArray, List.set_cons_zero, List.set_cons_succ])
      refine wpAnyH_ready (rs := [15]) (by kernel_rfl) (by simp) ?_
      refine AllReadyH.cons rfl (fun K9 hK9 => ?_) AllReadyH.nil
      (try simp only [List.getElem_toArray, List.getElem_cons_zero, List.getElem_cons_succ])
      go_simp
      refine (dm_write HDP.out.drew HOB.out ((f : Int) + 1 + (k : Int)) _ (chunkJ b k) (.inr (.inr (.head _)))).mono ?_
      rw [HWE.out]
      rintro en6 w6 ⟨rfl, h⟩
      have D6 := Lib.hid h
      clear h
      refine hK9.out _ _ (D6.out.blk (.head _)) (fun hHeld9 => ?_)
      clear hK9 K9
      (try simp only [List.getElem_toArray, List.getElem_cons_zero, List.getElem_cons_succ, Act.put, List.setIfInBounds_toArray, List.set_cons_zero, List.set_cons_succ])
      refine' wpAnyH_take (i := 16) (v := _) rfl (by kernel_rfl) (by kernel_rfl) (by kernel_rfl) (fun _ _ _ h => h) (Or.inl ⟨by rfl, ?taq24⟩) (by assumption) ?tbq24
      case taq24 =>
        intro wS hSw
        (try dsimp only at hSw)
        (have m0 := hSw.cell 0; simp only [jcells, List.getElem?_cons_zero] at m0; clear hSw; go_simp)
        (try (with_reducible rfl))
      (try simp only [List.getElem_toArray, List.getElem_cons_zero, List.getElem_cons_succ, Act.put, List.setIfInBounds_toArray, List.set_cons_zero, List.set_cons_succ])
      refine wpAnyH_done (by kernel_rfl) ?_ _
      by_cases hez : en = 0
      · have HPS3 : Hid (putsJ b f m 0 s = putsJ b f (m - (k + 1)) (k + 1) sn) := Lib.hid (by rw [HPS2.out, if_neg (by omega)])
        subst hez
        go_wp2
        go_roundw
        case rel => exact ⟨k + 1, sn, by omega, by go_num, HPS3, HSO, Lib.hid (D6.out.subR (fun x hx => .tail _ hx))⟩
        case measure => simp [intOf]; omega
      · have t2 : (en != 0) = true := by simpa using hez
        have HRW : Hid (rw_ = (sn, en)) := Lib.hid (by
          have h9 : putsJ b f m 0 s = (sn, en) := by rw [HPS2.out, if_pos hez]
          rw [HW.out, h9]
          simp [thenJ, hez])
        clear hez
        go_wp2
        go_ret
        have h9 := HSL.out
        rw [HRW.out] at h9 ⊢
        exact ⟨rfl, lv, D6.out.subR (fun x hx => .tail _ (.tail _ hx)), HLV.out, by simp only at h9; rw [h9]; exact HOK.out⟩
    · obtain rfl : k = m := by omega
      have HPE : Hid (putsJ b f k 0 s = (s', 0)) := Lib.hid (by rw [hps.out, Nat.sub_self]; rfl)
      obtain ⟨⟨sf, ef⟩, hfe⟩ : ∃ r, s'.flush = r := ⟨_, rfl⟩
      have hfo : sf.ops ≤ s'.ops + 1 := by have := flush_ops s'; rwa [hfe] at this
      have HFO : Hid (sf.ops ≤ s.ops + 5000) := Lib.hid (by have := hops.out; omega)
      have HOB : Hid (s'.ops < 1000000000) := Lib.hid (by have := hops.out; have := HO.out; omega)
      have HFE := Lib.hid hfe
      have HD3 := Lib.hid (hdm.out.subR (rs' := rs) (fun x hx => .tail _ hx))
      clear hfe hfo hps hops hdm
      go_wp2_with fail
      refine (dm_flush HD3.out HOB.out).mono ?_
      rw [HFE.out]
      rintro en w4 ⟨rfl, h⟩
      have HD4 := Lib.hid h
      clear h HD3 k0' hqr HBJ
      by_cases hez : ef = 0
      · subst hez
        have hbj : Blk w4 q 66 (jcells d lv j) := HD4.out.blk (.head _)
        have HBJ := Lib.hid hbj
        have k0' := hbj.cell 0
        have hqr := hbj.lt
        simp only [jcells, List.getElem?_cons_zero] at k0'
        clear hbj
        obtain ⟨⟨sh, eh⟩, hwe⟩ : ∃ r, sf.write (f : Int) (headB gen b) = r := ⟨_, rfl⟩
        have hso : sh.ops ≤ sf.ops + 1 := by have := write_ops sf (f : Int) (headB gen b); rwa [hwe] at this
        have HOF : Hid (sf.ops < 1000000000) := Lib.hid (by have := HFO.out; have := HO.out; omega)
        have HOH : Hid (sh.ops < 1000000000) := Lib.hid (by have := HFO.out; have := HO.out; omega)
        have HRW0 : Hid (rw_ = thenJ (sh, eh) Dk.flush) := Lib.hid (by rw [HW.out, HPE.out]; simp [thenJ, HFE.out, hwe])
        have HWE := Lib.hid hwe
        have HRB := Lib.hid (HD4.out.argReads (HARG.out.mono (bs' := (q, 66, jcells d lv j) :: bs) (fun y hy => .tail _ hy) (fun y hy => hy)))
        clear hwe hso HPE
        go_upto_region 13 with fail
        refine wp_region_held_drew (S := (fun w' => Blk w' q 66 (jcells d lv j))) (by kernel_rfl) (HBJ.out.drew) (fun hHeld => ?_)
        refine' wpAnyH_take (i := 0) (v := _) rfl (by kernel_rfl) (by kernel_rfl) (by kernel_rfl) (fun _ _ _ h => h) (Or.inl ⟨by rfl, ?taq1⟩) (by assumption) ?tbq1
        case taq1 =>
          intro wS hSw
          (try dsimp only at hSw)
          (have m0 := hSw.cell 0; simp only [jcells, List.getElem?_cons_zero] at m0; clear hSw; go_simp)
          (try (with_reducible rfl))
        (try simp only [List.getElem_toArray, List.getElem_cons_zero, List.getElem_cons_succ, Act.put, List.setIfInBounds_toArray, List.set_cons_zero, List.set_cons_succ])
        refine' wpAnyH_take (i := 1) (v := _) rfl (by kernel_rfl) (by kernel_rfl) (by kernel_rfl) (fun _ _ _ h => h) (Or.inl ⟨by rfl, ?taq2⟩) (by assumption) ?tbq2
        case taq2 =>
          intro wS hSw
          (try dsimp only at hSw)
          (have m0 := hSw.cell 0; simp only [jcells, List.getElem?_cons_zero] at m0; clear hSw; go_simp)
          (try (with_reducible rfl))
        (try simp only [List.getElem_toArray, List.getElem_cons_zero, List.getElem_cons_succ, Act.put, List.setIfInBounds_toArray, List.set_cons_zero, List.set_cons_succ])
        refine' wpAnyH_take (i := 2) (v := _) rfl (by kernel_rfl) (by kernel_rfl) (by kernel_rfl) (fun _ _ _ h => h) (Or.inl ⟨by rfl, ?taq3⟩) (by assumption) ?tbq3
        case taq3 =>
          intro wS hSw
          (try dsimp only at hSw)
          (have m0 := hSw.cell 0; simp only [jcells, List.getElem?_cons_zero] at m0; clear hSw; go_simp)
          (try (with_reducible rfl))
        (try simp only [List.getElem_toArray, List.getElem_cons_zero, List.getElem_cons_succ, Act.put, List.setIfInBounds_toArray, List.set_cons_zero, List.set_cons_succ])
        refine' wpAnyH_take (i := 3) (v := _) rfl (by kernel_rfl) (by kernel_rfl) (by kernel_rfl) (fun _ _ _ h => h) (Or.inl ⟨by rfl, ?taq4⟩) (by assumption) ?tbq4
        case taq4 =>
          intro wS hSw
          (try dsimp only at hSw)
          (have m0 := hSw.cell 0; simp only [jcells, List.getElem?_cons_zero] at m0; clear hSw; go_simp)
          (try (with_reducible rfl))
        (try simp only [List.getElem_toArray, List.getElem_cons_zero, List.getElem_cons_succ, Act.put, List.setIfInBounds_toArray, List.set_cons_zero, List.set_cons_succ])
        refine' wpAnyH_take (i := 4) (v := _) rfl (by kernel_rfl) (by kernel_rfl) (by kernel_rfl) (fun _ _ _ h => h) (Or.inl ⟨by rfl, ?taq5⟩) (by assumption) ?tbq5
        case taq5 =>
          intro wS hSw
          (try dsimp only at hSw)
          (have m0 := hSw.cell 0; simp only [jcells, List.getElem?_cons_zero] at m0; clear hSw; go_simp)
          (try (with_reducible rfl))
        (try simp only [List.getElem_toArray, List.getElem_cons_zero, List.getElem_cons_succ, Act.put, List.setIfInBounds_toArray, List.set_cons_zero, List.set_cons_succ])
        refine' wpAnyH_take (i := 5) (v := _) rfl (by kernel_rfl) (by kernel_rfl) (by kernel_rfl) (fun _ _ _ h => h) (Or.inl ⟨by rfl, ?taq6⟩) (by assumption) ?tbq6
        case taq6 =>
          intro wS hSw
          (try dsimp only at hSw)
          (have m0 := hSw.cell 0; simp only [jcells, List.getElem?_cons_zero] at m0; clear hSw; go_simp)
          (try (with_reducible rfl))
        (try simp only [List.getElem_toArray, List.getElem_cons_zero, List.getElem_cons_succ, Act.put, List.setIfInBounds_toArray, List.set_cons_zero, List.set_cons_succ])
        refine' wpAnyH_take (i := 6) (v := _) rfl (by kernel_rfl) (by kernel_rfl) (by kernel_rfl) (fun _ _ _ h => h) (Or.inl ⟨by rfl, ?taq7⟩) (by assumption) ?tbq7
        case taq7 =>
          intro wS hSw
          (try dsimp only at hSw)
          (have m0 := hSw.cell 0; simp only [jcells, List.getElem?_cons_zero] at m0; clear hSw; go_simp)
          (try (with_reducible rfl))
        (try simp only [List.getElem_toArray, List.getElem_cons_zero, List.getElem_cons_succ, Act.put, List.setIfInBounds_toArray, List.set_cons_zero, List.set_cons_succ])
        refine wpAnyH_ready (rs := [7]) (by kernel_rfl) (by simp) ?_
        refine AllReadyH.cons rfl (fun K9 hK9 => ?_) AllReadyH.nil
        (try simp only [List.getElem_toArray, List.getElem_cons_zero, List.getElem_cons_succ])
        go_simp
        refine (head_any w4.drew w4.heap.size _ b HRB.out.drew (Nat.le_refl _) gen HG.out (by rw [HN.out]; exact HN4.out)).mono ?_
        rintro en7 w7 ⟨A7, c7, rfl, hown7, hb7⟩
        rw [headB_len] at hown7 ⊢
        have D7 := Lib.hid (HD4.out.drew.read hb7 (own_readsIn (T := fun i => w4.drew.heap.size ≤ i) (by omega) hown7 (fun i hi => (hown7.lt i hi).1)))
        clear hown7 hb7
        refine hK9.out _ _ (D7.out.blk (.head _)) (fun hHeld9 => ?_)
        clear hK9 K9
        (try simp only [List.getElem_toArray, List.getElem_cons_zero, List.getElem_cons_succ, Act.put, List.setIfInBounds_toArray, List.set_cons_zero, List.set_cons_succ])
        refine wpAnyH_ready (rs := [8]) (by kernel_rfl) (by simp) ?_
        refine AllReadyH.cons rfl (fun K9 hK9 => ?_) AllReadyH.nil
        (try simp only [List.getElem_toArray, List.getElem_cons_zero, List.getElem_cons_succ])
        go_simp
        refine (dm_write D7.out HOF.out (f : Int) _ (headB gen b) (.inr (.inr (.head _)))).mono ?_
        rw [HWE.out]
        rintro en8 w8 ⟨rfl, h⟩
        have D8 := Lib.hid h
        clear h
        refine hK9.out _ _ (D8.out.blk (.head _)) (fun hHeld9 => ?_)
        clear hK9 K9
        (try simp only [List.getElem_toArray, List.getElem_cons_zero, List.getElem_cons_succ, Act.put, List.setIfInBounds_toArray, List.set_cons_zero, List.set_cons_succ])
        refine' wpAnyH_take (i := 9) (v := _) rfl (by kernel_rfl) (by kernel_rfl) (by kernel_rfl) (fun _ _ _ h => h) (Or.inl ⟨by rfl, ?taq8⟩) (by assumption) ?tbq8
        case taq8 =>
          intro wS hSw
          (try dsimp only at hSw)
          (have m0 := hSw.cell 0; simp only [jcells, List.getElem?_cons_zero] at m0; clear hSw; go_simp)
          (try (with_reducible rfl))
        (try simp only [List.getElem_toArray, List.getElem_cons_zero, List.getElem_cons_succ, Act.put, List.setIfInBounds_toArray, List.set_cons_zero, List.set_cons_succ])
        refine wpAnyH_done (by kernel_rfl) ?_ _
        by_cases hez : eh = 0
        · subst hez
          obtain ⟨⟨sz, ez⟩, hfe⟩ : ∃ r, sh.flush = r := ⟨_, rfl⟩
          have HRW : Hid (rw_ = (sz, ez)) := Lib.hid (by rw [HRW0.out]; simp [thenJ, hfe])
          have HFE2 := Lib.hid hfe
          have hbj : Blk w8 q 66 (jcells d lv j) := D8.out.blk (.head _)
          have k0' := hbj.cell 0
          have hqr := hbj.lt
          simp only [jcells, List.getElem?_cons_zero] at k0'
          clear hfe hbj
          go_wp2_with fail
          refine (dm_flush D8.out HOH.out).mono ?_
          rw [HFE2.out]
          rintro en w9 ⟨rfl, h⟩
          have HD9 := Lib.hid h
          clear h
          go_wp2
          go_ret
          have h9 := HSL.out
          rw [HRW.out] at h9 ⊢
          exact ⟨rfl, lv, HD9.out.subR (fun x hx => .tail _ hx), HLV.out, by simp only at h9; rw [h9]; exact HOK.out⟩
        · have t2 : (eh != 0) = true := by simpa using hez
          have HRW : Hid (rw_ = (sh, eh)) := Lib.hid (by rw [HRW0.out]; simp [thenJ, hez])
          clear hez
          go_wp2
          go_ret
          have h9 := HSL.out
          rw [HRW.out] at h9 ⊢
          exact ⟨rfl, lv, D8.out.subR (fun x hx => .tail _ hx), HLV.out, by simp only at h9; rw [h9]; exact HOK.out⟩
      · have t2 : (ef != 0) = true := by simpa using hez
        have HRW : Hid (rw_ = (sf, ef)) := Lib.hid (by rw [HW.out, HPE.out]; simp [thenJ, HFE.out, hez])
        clear hez
        go_wp2
        go_ret
        have h9 := HSL.out
        rw [HRW.out] at h9 ⊢
        exact ⟨rfl, lv, HD4.out, HLV.out, by simp only at h9; rw [h9]; exact HOK.out⟩
end
end Go.Proofs.Ytjddplddpdcmdaa
