/- Contract of the reference's Commit. -/
import Derived.Test.YtjddplddpdcmdaaJrRWrite
import Derived.Deep.RegionHeld3
import Derived.Deep.DrawnRows
namespace Go.Proofs.Ytjddplddpdcmdaa
open Go.RowKit
set_option linter.unusedVariables false
set_option linter.unusedSimpArgs false

section
variable {w0 w w' W W' w1 w2 : World} {ds ds' : List (Nat × Dk)} {bs bs' : List (Nat × TypeId × List Value)} {rs rs' rs0 : List (Nat × Value × List Value)} {p d g k n sz : Nat} {s : Dk} {r r' : Rk} {v u : Value} {t : TypeId} {cs cs' xs : List Value} {j : Jr}
theorem RM.put (h : RM w0 W ds p r ((g, t, cs) :: bs) rs) (i : Nat) (v : Value) : RM w0 (W.setCell ⟨g, i, none⟩ v) ds p r ((g, t, cs.set i v) :: bs) rs :=
  h.turn (Off.setCell (S := fun i => i = g) (Off.refl _ _) (p := ⟨g, i, none⟩) (.inl rfl) v) ((h.blk (.head _)).put i v)
set_option maxHeartbeats 6400000 in
set_option maxRecDepth 100000 in
theorem kcommit_any (h : KM w0 W ds p r k j bs rs0) (ha : Alike s r) (hj : j.Ok s.now.length) (hs0 : j.gen = 0 → j.slot = 1) (ho : s.ops < 900000000) (v : Value) (b : List UInt8) (hb : ArgM w0 bs rs0 v b) :
    Calls Try.prog 25 #[.pointer (some ⟨k, 0, none⟩), v] W fun en W' => en = .returned (.int .i64 (commitJ j s b).2.2) ∧ ∃ r', Alike (commitJ j s b).2.1 r' ∧ ∃ rs', SubR rs0 rs' ∧ KM w0 W' ds p r' k (commitJ j s b).1 bs rs' := by
  have HK := Lib.hid h
  obtain ⟨A9, c9, A8, c8, hk, _, k0, k1, k2, k3, k4, k5, _⟩ := h.cells
  obtain ⟨bv, hrm, hbv⟩ := h
  have hA := hrm.argReads (hb.mono (bs' := (k, 81, rjcells p bv j) :: bs) (fun y hy => .tail _ hy) (fun y hy => hy))
  obtain ⟨Ab, cb, rfl, _, _⟩ := hA.form
  have f5 := (hrm.blk (.head _)).free 5
  have HAL := Lib.hid ha
  have HARG := Lib.hid hb
  have HOK := Lib.hid hj
  have HO := Lib.hid ho
  have HROOM := Lib.hid (kroom_any HK.out (roomJ j) (by rw [← ha.len]; exact hj.four) (by unfold roomJ; rw [hj.half, ha.len]))
  have hgl := hj.gen
  have hsl := hj.slot
  obtain ⟨n, hn⟩ : ∃ n, b.length = n := ⟨_, rfl⟩
  rw [length_bytesV, hn] at hA hb HARG ⊢
  have HN := Lib.hid hn
  clear hA hb hrm hbv hj ho k0 k4 ha
  obtain ⟨bk, hbk⟩ : ∃ x, j.broken = x := ⟨_, rfl⟩
  rw [hbk] at k5
  cases bk with
  | true =>
    have HC : Hid (commitJ j s b = (j, s, 11)) := Lib.hid (by unfold commitJ; rw [if_pos hbk])
    clear hbk hn
    go_enter Try.func25, Try.ntmps25
    go_wp2
    go_ret
    rw [HC.out]
    exact ⟨rfl, r, HAL.out, rs0, SubR.refl _, HK.out⟩
  | false =>
    by_cases hr : roomJ j < n
    · have t1 : decide ((roomJ j : Int) < (n : Int)) = true := by simp; omega
      have t2 : decide (roomJ j < n) = true := by simp; omega
      have HC : Hid (commitJ j s b = (j, s, 8)) := Lib.hid (by unfold commitJ; rw [if_neg (by rw [hbk]; simp), if_pos (.inl (by omega))])
      clear hbk hn hr
      generalize roomJ j = room at t1 t2 HROOM
      go_enter Try.func25, Try.ntmps25
      go_wp2_with fail
      refine HROOM.out.mono ?_
      rintro en w1 ⟨rfl, rfl⟩
      go_wp2
      go_ret
      rw [HC.out]
      exact ⟨rfl, r, HAL.out, rs0, SubR.refl _, HK.out⟩
    · have t1 : decide ((roomJ j : Int) < (n : Int)) = false := by simp; omega
      have t2 : decide (roomJ j < n) = false := by simp; omega
      by_cases hgm : j.gen = 4294967295
      · have t3 : ((j.gen : Int) == 4294967295) = true := by simp; omega
        have HC : Hid (commitJ j s b = (j, s, 8)) := Lib.hid (by unfold commitJ; rw [if_neg (by rw [hbk]; simp), if_pos (.inr hgm)])
        clear hbk hn hr hgm
        generalize roomJ j = room at t1 t2 HROOM
        go_enter Try.func25, Try.ntmps25
        go_wp2_with fail
        refine HROOM.out.mono ?_
        rintro en w1 ⟨rfl, rfl⟩
        go_wp2
        go_ret
        rw [HC.out]
        exact ⟨rfl, r, HAL.out, rs0, SubR.refl _, HK.out⟩
      · have t3 : ((j.gen : Int) == 4294967295) = false := by simp; omega
        obtain ⟨⟨sw, ew⟩, hwe⟩ : ∃ q, writeJ s j.half (1 - j.slot) (j.gen + 1) b = q := ⟨_, rfl⟩
        have HC : Hid (commitJ j s b = if ew ≠ 0 then ({ j with broken := true }, sw, ew) else ({ j with slot := 1 - j.slot, gen := j.gen + 1, last := b }, sw, 0)) := Lib.hid (by
          unfold commitJ
          rw [if_neg (by rw [hbk]; simp), if_neg (by omega)]
          simp only [hwe])
        have HWR := Lib.hid (kwrite_any HK.out HAL.out HOK.out HO.out (1 - j.slot) (by omega) (by omega) _ b HARG.out (by rw [HN.out]; omega))
        rw [hwe] at HWR
        have HNM : Hid (n ≤ 262144) := Lib.hid (by unfold roomJ at hr; have := HOK.out.half; have := HOK.out.most; omega)
        have HG1 : Hid (j.gen + 1 ≤ 4294967295) := Lib.hid (by omega)
        obtain ⟨σ, hσ⟩ : ∃ σ, 1 - j.slot = σ := ⟨_, rfl⟩
        have HSG := Lib.hid hσ
        rw [hσ] at HWR
        have HBR := Lib.hid hbk
        have hgen : (j.gen : Int) + 1 ≤ 4294967295 := by omega
        obtain ⟨hh, hhas⟩ : ∃ hh, hasR j = hh := ⟨_, rfl⟩
        rw [hhas] at k1
        have HSL : Hid (hh = true → (1 : Int) - (slotR j : Int) = (σ : Int)) := Lib.hid (fun h => by
          have h0 : j.gen ≠ 0 := by rw [h] at hhas; unfold hasR at hhas; simpa using hhas
          unfold slotR
          rw [if_neg h0]
          omega)
        have HSL0 : Hid (hh = false → σ = 0) := Lib.hid (fun h => by
          have h0 : j.gen = 0 := by rw [h] at hhas; unfold hasR at hhas; simpa using hhas
          have := hs0 h0
          omega)
        clear hbk hn hr hgm hwe hgl hsl hs0 hhas hσ
        generalize roomJ j = room at t1 t2 HROOM
        generalize slotR j = sl at k2 HSL
        cases hh with
        | true =>
          have e1 : (1 : Int) - (sl : Int) = (σ : Int) := HSL.out rfl
          clear HSL HSL0
          go_enter Try.func25, Try.ntmps25
          go_wp2_with fail
          refine HROOM.out.mono ?_
          rintro en w1 ⟨rfl, rfl⟩
          go_wp2_with fail
          refine HWR.out.mono ?_
          rintro en w1 ⟨r1, rfl, hal, hkm⟩
          have HAL1 := Lib.hid hal
          have HK1 := Lib.hid hkm
          clear hal hkm HWR HROOM t1 t2
          obtain ⟨A9, c9, A8, c8, hq1, _, _, q1, q2, q3, q4, q5, _⟩ := HK1.out.cells
          obtain ⟨bv, h1, h2⟩ := HK1.out
          obtain ⟨Av, cv, rfl⟩ := h1.form1 h2
          have hbk := h1.blk (.head _)
          have f1 := hbk.free 1
          have f2 := hbk.free 2
          have f3 := hbk.free 3
          have f4 := hbk.free 4
          have f5 := hbk.free 5
          simp only at f1 f2 f3 f4 f5
          have HD1 := Lib.hid h1
          have HLV := Lib.hid h2
          clear h1 h2 hbk
          by_cases hez : ew = 0
          · subst hez
            have HC2 : Hid (commitJ j s b = ({ j with slot := 1 - j.slot, gen := j.gen + 1, last := b }, sw, 0)) := Lib.hid (by rw [HC.out, if_neg (by omega)])
            clear HC
            have hrb := HD1.out.argReads (HARG.out.mono (bs' := (k, 81, rjcells p (.slice Av (lastJ j).length cv) j) :: bs) (fun y hy => .tail _ hy) (fun y hy => hy))
            have HRB := Lib.hid hrb
            clear hrb
            have hbl1 : (bytesV b).length = n := by rw [length_bytesV, HN.out]
            have HBL1 := Lib.hid hbl1
            have HRJ : Hid (∀ A c, rjcells p (.slice A n c) { j with slot := 1 - j.slot, gen := j.gen + 1, last := b } = [.pointer (some ⟨p, 0, none⟩), .bool true, .int .i64 (σ : Int), .int .u32 (IntKind.u32.wrap ((j.gen : Int) + 1)), .slice A n c, .bool j.broken]) := Lib.hid (fun A c => by
              unfold rjcells hasR slotR
              simp only
              rw [if_neg (by omega), HSG.out, IntKind.wrap_u32, show ((j.gen : Int) + 1) % 4294967296 = ((j.gen + 1 : Nat) : Int) by omega]
              simp)
            have HLJ : Hid (lastJ { j with slot := 1 - j.slot, gen := j.gen + 1, last := b } = b) := Lib.hid (by unfold lastJ; simp only; rw [if_neg (by omega)])
            clear hbl1
            go_upto_region 12 with fail
            refine wp_region_held_drew (S := (fun _ => True)) (by kernel_rfl) (trivial) (fun hHeld => ?_)
            refine' wpAnyH_take (i := 0) (v := _) rfl (by kernel_rfl) (by kernel_rfl) (by kernel_rfl) (fun _ _ _ h => h) (Or.inl ⟨by rfl, ?taq1⟩) (by assumption) ?tbq1
            case taq1 =>
              intro wS hSw
              (try dsimp only at hSw)
              go_simp
              (try (with_reducible rfl))
            (try simp only [List.getElem_toArray, List.getElem_cons_zero, List.getElem_cons_succ, Act.put, List.setIfInBounds_toArray, List.set_cons_zero, List.set_cons_succ])
            refine' wpAnyH_take (i := 1) (v := _) rfl (by kernel_rfl) (by kernel_rfl) (by kernel_rfl) (fun _ _ _ h => h) (Or.inl ⟨by rfl, ?taq2⟩) (by assumption) ?tbq2
            case taq2 =>
              intro wS hSw
              (try dsimp only at hSw)
              go_simp
              (try (with_reducible rfl))
            (try simp only [List.getElem_toArray, List.getElem_cons_zero, List.getElem_cons_succ, Act.put, List.setIfInBounds_toArray, List.set_cons_zero, List.set_cons_succ])
            refine' wpAnyH_take (i := 2) (v := _) rfl (by kernel_rfl) (by kernel_rfl) (by kernel_rfl) (fun _ _ _ h => h) (Or.inl ⟨by rfl, ?taq3⟩) (by assumption) ?tbq3
            case taq3 =>
              intro wS hSw
              (try dsimp only at hSw)
              go_simp
              (try (with_reducible rfl))
            (try simp only [List.getElem_toArray, List.getElem_cons_zero, List.getElem_cons_succ, Act.put, List.setIfInBounds_toArray, List.set_cons_zero, List.set_cons_succ])
            refine' wpAnyH_take (i := 3) (v := _) rfl (by kernel_rfl) (by kernel_rfl) (by kernel_rfl) (fun _ _ _ h => h) (Or.inl ⟨by rfl, ?taq4⟩) (by assumption) ?tbq4
            case taq4 =>
              intro wS hSw
              (try dsimp only at hSw)
              go_simp
              (try (with_reducible rfl))
            (try simp only [List.getElem_toArray, List.getElem_cons_zero, List.getElem_cons_succ, Act.put, List.setIfInBounds_toArray, List.set_cons_zero, List.set_cons_succ])
            refine' wpAnyH_take (i := 4) (v := _) rfl (by kernel_rfl) (by kernel_rfl) (by kernel_rfl) (fun _ _ _ h => h) (Or.inl ⟨by rfl, ?taq5⟩) (by assumption) ?tbq5
            case taq5 =>
              intro wS hSw
              (try dsimp only at hSw)
              go_simp
              (try (with_reducible rfl))
            (try simp only [List.getElem_toArray, List.getElem_cons_zero, List.getElem_cons_succ, Act.put, List.setIfInBounds_toArray, List.set_cons_zero, List.set_cons_succ])
            refine' wpAnyH_take (i := 5) (v := _) rfl (by kernel_rfl) (by kernel_rfl) (by kernel_rfl) (fun _ _ _ h => h) (Or.inl ⟨by rfl, ?taq6⟩) (by assumption) ?tbq6
            case taq6 =>
              intro wS hSw
              (try dsimp only at hSw)
              go_simp
              (try (with_reducible rfl))
            (try simp only [List.getElem_toArray, List.getElem_cons_zero, List.getElem_cons_succ, Act.put, List.setIfInBounds_toArray, List.set_cons_zero, List.set_cons_succ])
            refine' wpAnyH_take (i := 6) (v := _) rfl (by kernel_rfl) (by kernel_rfl) (by kernel_rfl) (fun _ _ _ h => h) (Or.inl ⟨by rfl, ?taq7⟩) (by assumption) ?tbq7
            case taq7 =>
              intro wS hSw
              (try dsimp only at hSw)
              go_simp
              (try (with_reducible rfl))
            (try simp only [List.getElem_toArray, List.getElem_cons_zero, List.getElem_cons_succ, Act.put, List.setIfInBounds_toArray, List.set_cons_zero, List.set_cons_succ])
            refine' wpAnyH_take (i := 7) (v := _) rfl (by kernel_rfl) (by kernel_rfl) (by kernel_rfl) (fun _ _ _ h => h) (Or.inl ⟨by rfl, ?taq8⟩) (by assumption) ?tbq8
            case taq8 =>
              intro wS hSw
              (try dsimp only at hSw)
              go_simp
              (try (with_reducible rfl))
            (try simp only [List.getElem_toArray, List.getElem_cons_zero, List.getElem_cons_succ, Act.put, List.setIfInBounds_toArray, List.set_cons_zero, List.set_cons_succ])
            refine' wpAnyH_take (i := 10) (v := _) rfl (by kernel_rfl) (by kernel_rfl) (by kernel_rfl) (fun _ _ _ h => h) (Or.inl ⟨by rfl, ?taq9⟩) (by assumption) ?tbq9
            case taq9 =>
              intro wS hSw
              (try dsimp only at hSw)
              go_simp
              (try (with_reducible rfl))
            (try simp only [List.getElem_toArray, List.getElem_cons_zero, List.getElem_cons_succ, Act.put, List.setIfInBounds_toArray, List.set_cons_zero, List.set_cons_succ])
            refine wpAnyH_ready (rs := [8, 11]) (by kernel_rfl) (by simp) ?_
            refine AllReadyH.cons rfl (fun K9 hK9 => ?_) (AllReadyH.cons rfl (fun K9 hK9 => ?_) AllReadyH.nil)
            · (try simp only [List.getElem_toArray, List.getElem_cons_zero, List.getElem_cons_succ])
              have hbk9 := HD1.out.drew.blk (.head _)
              have m3 := hbk9.cell 3
              have hl := hbk9.lt
              simp only [rjcells, List.set_cons_zero, List.set_cons_succ, List.getElem?_cons_zero, List.getElem?_cons_succ] at  m3 hl
              clear hbk9
              go_simp
              refine hK9.out _ _ trivial (fun hHeld9 => ?_)
              clear hK9 K9
              (try simp only [List.getElem_toArray, List.getElem_cons_zero, List.getElem_cons_succ, Act.put, List.setIfInBounds_toArray, List.set_cons_zero, List.set_cons_succ])
              clear m3 hl
              refine' wpAnyH_take (i := 9) (v := _) rfl (by kernel_rfl) (by kernel_rfl) (by kernel_rfl) (fun _ _ _ h => h) (Or.inl ⟨by rfl, ?taq10⟩) (by assumption) ?tbq10
              case taq10 =>
                intro wS hSw
                (try dsimp only at hSw)
                go_simp
                (try (with_reducible rfl))
              (try simp only [List.getElem_toArray, List.getElem_cons_zero, List.getElem_cons_succ, Act.put, List.setIfInBounds_toArray, List.set_cons_zero, List.set_cons_succ])
              refine wpAnyH_ready (rs := [11]) (by kernel_rfl) (by simp) ?_
              refine AllReadyH.cons rfl (fun K9 hK9 => ?_) AllReadyH.nil
              (try simp only [List.getElem_toArray, List.getElem_cons_zero, List.getElem_cons_succ])
              rw [if_pos (by rfl)]
              refine wp_extend elem_byte _ _ _ (by rfl) w1.heap.size 0 (.slice none 0 0) [] (by rfl) (World.ownsRow_nil _ _ _ _) _ _ (bytesV b) (by rfl) HRB.out.drew (bytesV_one _) (by rw [HBL1.out]; have := HNM.out; unfold maxLen; omega) (by rw [HBL1.out]; have := HNM.out; omega) (Nat.le_refl _) ?_
              intro A6 c6 w6 hown6 hg6 hf6
              rw [HBL1.out, Nat.zero_add, List.nil_append] at hown6
              rw [HBL1.out]
              simp only [Nat.zero_add] at hf6 ⊢
              have hb6 := (Below.refl w1.drew.heap.size w1.drew).grown hg6 (Nat.le_refl _) (fun k hk => by cases hk)
              have D6 := Lib.hid (HD1.out.drew.read hb6 (own_readsIn (T := fun i => w1.drew.heap.size ≤ i) (by omega) hown6 (fun i hi => (hown6.lt i hi).1)))
              clear hown6 hg6 hf6 hb6
              refine hK9.out _ _ trivial (fun hHeld9 => ?_)
              clear hK9 K9
              (try simp only [List.getElem_toArray, List.getElem_cons_zero, List.getElem_cons_succ, Act.put, List.setIfInBounds_toArray, List.set_cons_zero, List.set_cons_succ])
              refine' wpAnyH_take (i := 12) (v := _) rfl (by kernel_rfl) (by kernel_rfl) (by kernel_rfl) (fun _ _ _ h => h) (Or.inl ⟨by rfl, ?taq11⟩) (by assumption) ?tbq11
              case taq11 =>
                intro wS hSw
                (try dsimp only at hSw)
                go_simp
                (try (with_reducible rfl))
              (try simp only [List.getElem_toArray, List.getElem_cons_zero, List.getElem_cons_succ, Act.put, List.setIfInBounds_toArray, List.set_cons_zero, List.set_cons_succ])
              refine' wpAnyH_take (i := 13) (v := _) rfl (by kernel_rfl) (by kernel_rfl) (by kernel_rfl) (fun _ _ _ h => h) (Or.inl ⟨by rfl, ?taq12⟩) (by assumption) ?tbq12
              case taq12 =>
                intro wS hSw
                (try dsimp only at hSw)
                go_simp
                (try (with_reducible rfl))
              (try simp only [List.getElem_toArray, List.getElem_cons_zero, List.getElem_cons_succ, Act.put, List.setIfInBounds_toArray, List.set_cons_zero, List.set_cons_succ])
              refine wpAnyH_ready (rs := [14]) (by kernel_rfl) (by simp) ?_
              refine AllReadyH.cons rfl (fun K9 hK9 => ?_) AllReadyH.nil
              (try simp only [List.getElem_toArray, List.getElem_cons_zero, List.getElem_cons_succ])
              have hbk9 := D6.out.blk (.head _)
              have m := hbk9.cell 1
              have f := hbk9.free 1
              have hl := hbk9.lt
              simp only [rjcells, List.set_cons_zero, List.set_cons_succ, List.getElem?_cons_zero, List.getElem?_cons_succ] at  m f hl
              clear hbk9
              go_simp
              refine hK9.out _ _ trivial (fun hHeld9 => ?_)
              clear hK9 K9
              (try simp only [List.getElem_toArray, List.getElem_cons_zero, List.getElem_cons_succ, Act.put, List.setIfInBounds_toArray, List.set_cons_zero, List.set_cons_succ])
              clear m f hl
              have D7 := Lib.hid (D6.out.put 1 (.bool true))
              generalize (w6.setCell ⟨k, 1, none⟩ (.bool true)) = w7 at D7 ⊢
              clear D6
              refine' wpAnyH_take (i := 15) (v := _) rfl (by kernel_rfl) (by kernel_rfl) (by kernel_rfl) (fun _ _ _ h => h) (Or.inl ⟨by rfl, ?taq13⟩) (by assumption) ?tbq13
              case taq13 =>
                intro wS hSw
                (try dsimp only at hSw)
                go_simp
                (try (with_reducible rfl))
              (try simp only [List.getElem_toArray, List.getElem_cons_zero, List.getElem_cons_succ, Act.put, List.setIfInBounds_toArray, List.set_cons_zero, List.set_cons_succ])
              refine' wpAnyH_take (i := 16) (v := _) rfl (by kernel_rfl) (by kernel_rfl) (by kernel_rfl) (fun _ _ _ h => h) (Or.inl ⟨by rfl, ?taq14⟩) (by assumption) ?tbq14
              case taq14 =>
                intro wS hSw
                (try dsimp only at hSw)
                go_simp
                (try (with_reducible rfl))
              (try simp only [List.getElem_toArray, List.getElem_cons_zero, List.getElem_cons_succ, Act.put, List.setIfInBounds_toArray, List.set_cons_zero, List.set_cons_succ])
              refine wpAnyH_ready (rs := [17]) (by kernel_rfl) (by simp) ?_
              refine AllReadyH.cons rfl (fun K9 hK9 => ?_) AllReadyH.nil
              (try simp only [List.getElem_toArray, List.getElem_cons_zero, List.getElem_cons_succ])
              have hbk9 := D7.out.blk (.head _)
              have m := hbk9.cell 2
              have f := hbk9.free 2
              have hl := hbk9.lt
              simp only [rjcells, List.set_cons_zero, List.set_cons_succ, List.getElem?_cons_zero, List.getElem?_cons_succ] at  m f hl
              clear hbk9
              go_simp
              refine hK9.out _ _ trivial (fun hHeld9 => ?_)
              clear hK9 K9
              (try simp only [List.getElem_toArray, List.getElem_cons_zero, List.getElem_cons_succ, Act.put, List.setIfInBounds_toArray, List.set_cons_zero, List.set_cons_succ])
              clear m f hl
              have D8 := Lib.hid (D7.out.put 2 (.int .i64 (σ : Int)))
              generalize (w7.setCell ⟨k, 2, none⟩ (.int .i64 (σ : Int))) = w8 at D8 ⊢
              clear D7
              refine' wpAnyH_take (i := 18) (v := _) rfl (by kernel_rfl) (by kernel_rfl) (by kernel_rfl) (fun _ _ _ h => h) (Or.inl ⟨by rfl, ?taq15⟩) (by assumption) ?tbq15
              case taq15 =>
                intro wS hSw
                (try dsimp only at hSw)
                go_simp
                (try (with_reducible rfl))
              (try simp only [List.getElem_toArray, List.getElem_cons_zero, List.getElem_cons_succ, Act.put, List.setIfInBounds_toArray, List.set_cons_zero, List.set_cons_succ])
              refine' wpAnyH_take (i := 19) (v := _) rfl (by kernel_rfl) (by kernel_rfl) (by kernel_rfl) (fun _ _ _ h => h) (Or.inl ⟨by rfl, ?taq16⟩) (by assumption) ?tbq16
              case taq16 =>
                intro wS hSw
                (try dsimp only at hSw)
                go_simp
                (try (with_reducible rfl))
              (try simp only [List.getElem_toArray, List.getElem_cons_zero, List.getElem_cons_succ, Act.put, List.setIfInBounds_toArray, List.set_cons_zero, List.set_cons_succ])
              refine wpAnyH_ready (rs := [20]) (by kernel_rfl) (by simp) ?_
              refine AllReadyH.cons rfl (fun K9 hK9 => ?_) AllReadyH.nil
              (try simp only [List.getElem_toArray, List.getElem_cons_zero, List.getElem_cons_succ])
              have hbk9 := D8.out.blk (.head _)
              have m := hbk9.cell 3
              have f := hbk9.free 3
              have hl := hbk9.lt
              simp only [rjcells, List.set_cons_zero, List.set_cons_succ, List.getElem?_cons_zero, List.getElem?_cons_succ] at  m f hl
              clear hbk9
              go_simp
              refine hK9.out _ _ trivial (fun hHeld9 => ?_)
              clear hK9 K9
              (try simp only [List.getElem_toArray, List.getElem_cons_zero, List.getElem_cons_succ, Act.put, List.setIfInBounds_toArray, List.set_cons_zero, List.set_cons_succ])
              clear m f hl
              have D9 := Lib.hid (D8.out.put 3 (.int .u32 (IntKind.u32.wrap ((j.gen : Int) + 1))))
              generalize (w8.setCell ⟨k, 3, none⟩ (.int .u32 (IntKind.u32.wrap ((j.gen : Int) + 1)))) = w9 at D9 ⊢
              clear D8
              refine' wpAnyH_take (i := 21) (v := _) rfl (by kernel_rfl) (by kernel_rfl) (by kernel_rfl) (fun _ _ _ h => h) (Or.inl ⟨by rfl, ?taq17⟩) (by assumption) ?tbq17
              case taq17 =>
                intro wS hSw
                (try dsimp only at hSw)
                go_simp
                (try (with_reducible rfl))
              (try simp only [List.getElem_toArray, List.getElem_cons_zero, List.getElem_cons_succ, Act.put, List.setIfInBounds_toArray, List.set_cons_zero, List.set_cons_succ])
              refine' wpAnyH_take (i := 22) (v := _) rfl (by kernel_rfl) (by kernel_rfl) (by kernel_rfl) (fun _ _ _ h => h) (Or.inl ⟨by rfl, ?taq18⟩) (by assumption) ?tbq18
              case taq18 =>
                intro wS hSw
                (try dsimp only at hSw)
                go_simp
                (try (with_reducible rfl))
              (try simp only [List.getElem_toArray, List.getElem_cons_zero, List.getElem_cons_succ, Act.put, List.setIfInBounds_toArray, List.set_cons_zero, List.set_cons_succ])
              refine wpAnyH_ready (rs := [23]) (by kernel_rfl) (by simp) ?_
              refine AllReadyH.cons rfl (fun K9 hK9 => ?_) AllReadyH.nil
              (try simp only [List.getElem_toArray, List.getElem_cons_zero, List.getElem_cons_succ])
              have hbk9 := D9.out.blk (.head _)
              have m := hbk9.cell 4
              have f := hbk9.free 4
              have hl := hbk9.lt
              simp only [rjcells, List.set_cons_zero, List.set_cons_succ, List.getElem?_cons_zero, List.getElem?_cons_succ] at  m f hl
              clear hbk9
              go_simp
              refine hK9.out _ _ trivial (fun hHeld9 => ?_)
              clear hK9 K9
              (try simp only [List.getElem_toArray, List.getElem_cons_zero, List.getElem_cons_succ, Act.put, List.setIfInBounds_toArray, List.set_cons_zero, List.set_cons_succ])
              clear m f hl
              have D10 := Lib.hid (D9.out.put 4 (.slice A6 n c6))
              generalize (w9.setCell ⟨k, 4, none⟩ (.slice A6 n c6)) = w10 at D10 ⊢
              clear D9
              refine wpAnyH_done (by kernel_rfl) ?_ _
              go_wp2
              go_ret
              rw [HC2.out]
              refine ⟨rfl, r1, HAL1.out, (1, .slice A6 n c6, bytesV b) :: rs0, SubR.cons _ _, .slice A6 n c6, ?_, ?_⟩
              · rw [HRJ.out]
                exact D10.out
              · rw [HLJ.out]
                exact .head _
            · (try simp only [List.getElem_toArray, List.getElem_cons_zero, List.getElem_cons_succ])
              rw [if_pos (by rfl)]
              refine wp_extend elem_byte _ _ _ (by rfl) w1.heap.size 0 (.slice none 0 0) [] (by rfl) (World.ownsRow_nil _ _ _ _) _ _ (bytesV b) (by rfl) HRB.out.drew (bytesV_one _) (by rw [HBL1.out]; have := HNM.out; unfold maxLen; omega) (by rw [HBL1.out]; have := HNM.out; omega) (Nat.le_refl _) ?_
              intro A6 c6 w6 hown6 hg6 hf6
              rw [HBL1.out, Nat.zero_add, List.nil_append] at hown6
              rw [HBL1.out]
              simp only [Nat.zero_add] at hf6 ⊢
              have hb6 := (Below.refl w1.drew.heap.size w1.drew).grown hg6 (Nat.le_refl _) (fun k hk => by cases hk)
              have D6 := Lib.hid (HD1.out.drew.read hb6 (own_readsIn (T := fun i => w1.drew.heap.size ≤ i) (by omega) hown6 (fun i hi => (hown6.lt i hi).1)))
              clear hown6 hg6 hf6 hb6
              refine hK9.out _ _ trivial (fun hHeld9 => ?_)
              clear hK9 K9
              (try simp only [List.getElem_toArray, List.getElem_cons_zero, List.getElem_cons_succ, Act.put, List.setIfInBounds_toArray, List.set_cons_zero, List.set_cons_succ])
              refine wpAnyH_ready (rs := [8]) (by kernel_rfl) (by simp) ?_
              refine AllReadyH.cons rfl (fun K9 hK9 => ?_) AllReadyH.nil
              (try simp only [List.getElem_toArray, List.getElem_cons_zero, List.getElem_cons_succ])
              have hbk9 := D6.out.blk (.head _)
              have m3 := hbk9.cell 3
              have hl := hbk9.lt
              simp only [rjcells, List.set_cons_zero, List.set_cons_succ, List.getElem?_cons_zero, List.getElem?_cons_succ] at  m3 hl
              clear hbk9
              go_simp
              refine hK9.out _ _ trivial (fun hHeld9 => ?_)
              clear hK9 K9
              (try simp only [List.getElem_toArray, List.getElem_cons_zero, List.getElem_cons_succ, Act.put, List.setIfInBounds_toArray, List.set_cons_zero, List.set_cons_succ])
              clear m3 hl
              refine' wpAnyH_take (i := 9) (v := _) rfl (by kernel_rfl) (by kernel_rfl) (by kernel_rfl) (fun _ _ _ h => h) (Or.inl ⟨by rfl, ?taq19⟩) (by assumption) ?tbq19
              case taq19 =>
                intro wS hSw
                (try dsimp only at hSw)
                go_simp
                (try (with_reducible rfl))
              (try simp only [List.getElem_toArray, List.getElem_cons_zero, List.getElem_cons_succ, Act.put, List.setIfInBounds_toArray, List.set_cons_zero, List.set_cons_succ])
              refine' wpAnyH_take (i := 12) (v := _) rfl (by kernel_rfl) (by kernel_rfl) (by kernel_rfl) (fun _ _ _ h => h) (Or.inl ⟨by rfl, ?taq20⟩) (by assumption) ?tbq20
              case taq20 =>
                intro wS hSw
                (try dsimp only at hSw)
                go_simp
                (try (with_reducible rfl))
              (try simp only [List.getElem_toArray, List.getElem_cons_zero, List.getElem_cons_succ, Act.put, List.setIfInBounds_toArray, List.set_cons_zero, List.set_cons_succ])
              refine' wpAnyH_take (i := 13) (v := _) rfl (by kernel_rfl) (by kernel_rfl) (by kernel_rfl) (fun _ _ _ h => h) (Or.inl ⟨by rfl, ?taq21⟩) (by assumption) ?tbq21
              case taq21 =>
                intro wS hSw
                (try dsimp only at hSw)
                go_simp
                (try (with_reducible rfl))
              (try simp only [List.getElem_toArray, List.getElem_cons_zero, List.getElem_cons_succ, Act.put, List.setIfInBounds_toArray, List.set_cons_zero, List.set_cons_succ])
              refine wpAnyH_ready (rs := [14]) (by kernel_rfl) (by simp) ?_
              refine AllReadyH.cons rfl (fun K9 hK9 => ?_) AllReadyH.nil
              (try simp only [List.getElem_toArray, List.getElem_cons_zero, List.getElem_cons_succ])
              have hbk9 := D6.out.blk (.head _)
              have m := hbk9.cell 1
              have f := hbk9.free 1
              have hl := hbk9.lt
              simp only [rjcells, List.set_cons_zero, List.set_cons_succ, List.getElem?_cons_zero, List.getElem?_cons_succ] at  m f hl
              clear hbk9
              go_simp
              refine hK9.out _ _ trivial (fun hHeld9 => ?_)
              clear hK9 K9
              (try simp only [List.getElem_toArray, List.getElem_cons_zero, List.getElem_cons_succ, Act.put, List.setIfInBounds_toArray, List.set_cons_zero, List.set_cons_succ])
              clear m f hl
              have D7 := Lib.hid (D6.out.put 1 (.bool true))
              generalize (w6.setCell ⟨k, 1, none⟩ (.bool true)) = w7 at D7 ⊢
              clear D6
              refine' wpAnyH_take (i := 15) (v := _) rfl (by kernel_rfl) (by kernel_rfl) (by kernel_rfl) (fun _ _ _ h => h) (Or.inl ⟨by rfl, ?taq22⟩) (by assumption) ?tbq22
              case taq22 =>
                intro wS hSw
                (try dsimp only at hSw)
                go_simp
                (try (with_reducible rfl))
              (try simp only [List.getElem_toArray, List.getElem_cons_zero, List.getElem_cons_succ, Act.put, List.setIfInBounds_toArray, List.set_cons_zero, List.set_cons_succ])
              refine' wpAnyH_take (i := 16) (v := _) rfl (by kernel_rfl) (by kernel_rfl) (by kernel_rfl) (fun _ _ _ h => h) (Or.inl ⟨by rfl, ?taq23⟩) (by assumption) ?tbq23
              case taq23 =>
                intro wS hSw
                (try dsimp only at hSw)
                go_simp
                (try (with_reducible rfl))
              (try simp only [List.getElem_toArray, List.getElem_cons_zero, List.getElem_cons_succ, Act.put, List.setIfInBounds_toArray, List.set_cons_zero, List.set_cons_succ])
              refine wpAnyH_ready (rs := [17]) (by kernel_rfl) (by simp) ?_
              refine AllReadyH.cons rfl (fun K9 hK9 => ?_) AllReadyH.nil
              (try simp only [List.getElem_toArray, List.getElem_cons_zero, List.getElem_cons_succ])
              have hbk9 := D7.out.blk (.head _)
              have m := hbk9.cell 2
              have f := hbk9.free 2
              have hl := hbk9.lt
              simp only [rjcells, List.set_cons_zero, List.set_cons_succ, List.getElem?_cons_zero, List.getElem?_cons_succ] at  m f hl
              clear hbk9
              go_simp
              refine hK9.out _ _ trivial (fun hHeld9 => ?_)
              clear hK9 K9
              (try simp only [List.getElem_toArray, List.getElem_cons_zero, List.getElem_cons_succ, Act.put, List.setIfInBounds_toArray, List.set_cons_zero, List.set_cons_succ])
              clear m f hl
              have D8 := Lib.hid (D7.out.put 2 (.int .i64 (σ : Int)))
              generalize (w7.setCell ⟨k, 2, none⟩ (.int .i64 (σ : Int))) = w8 at D8 ⊢
              clear D7
              refine' wpAnyH_take (i := 18) (v := _) rfl (by kernel_rfl) (by kernel_rfl) (by kernel_rfl) (fun _ _ _ h => h) (Or.inl ⟨by rfl, ?taq24⟩) (by assumption) ?tbq24
              case taq24 =>
                intro wS hSw
                (try dsimp only at hSw)
                go_simp
                (try (with_reducible rfl))
              (try simp only [List.getElem_toArray, List.getElem_cons_zero, List.getElem_cons_succ, Act.put, List.setIfInBounds_toArray, List.set_cons_zero, List.set_cons_succ])
              refine' wpAnyH_take (i := 19) (v := _) rfl (by kernel_rfl) (by kernel_rfl) (by kernel_rfl) (fun _ _ _ h => h) (Or.inl ⟨by rfl, ?taq25⟩) (by assumption) ?tbq25
              case taq25 =>
                intro wS hSw
                (try dsimp only at hSw)
                go_simp
                (try (with_reducible rfl))
              (try simp only [List.getElem_toArray, List.getElem_cons_zero, List.getElem_cons_succ, Act.put, List.setIfInBounds_toArray, List.set_cons_zero, List.set_cons_succ])
              refine wpAnyH_ready (rs := [20]) (by kernel_rfl) (by simp) ?_
              refine AllReadyH.cons rfl (fun K9 hK9 => ?_) AllReadyH.nil
              (try simp only [List.getElem_toArray, List.getElem_cons_zero, List.getElem_cons_succ])
              have hbk9 := D8.out.blk (.head _)
              have m := hbk9.cell 3
              have f := hbk9.free 3
              have hl := hbk9.lt
              simp only [rjcells, List.set_cons_zero, List.set_cons_succ, List.getElem?_cons_zero, List.getElem?_cons_succ] at  m f hl
              clear hbk9
              go_simp
              refine hK9.out _ _ trivial (fun hHeld9 => ?_)
              clear hK9 K9
              (try simp only [List.getElem_toArray, List.getElem_cons_zero, List.getElem_cons_succ, Act.put, List.setIfInBounds_toArray, List.set_cons_zero, List.set_cons_succ])
              clear m f hl
              have D9 := Lib.hid (D8.out.put 3 (.int .u32 (IntKind.u32.wrap ((j.gen : Int) + 1))))
              generalize (w8.setCell ⟨k, 3, none⟩ (.int .u32 (IntKind.u32.wrap ((j.gen : Int) + 1)))) = w9 at D9 ⊢
              clear D8
              refine' wpAnyH_take (i := 21) (v := _) rfl (by kernel_rfl) (by kernel_rfl) (by kernel_rfl) (fun _ _ _ h => h) (Or.inl ⟨by rfl, ?taq26⟩) (by assumption) ?tbq26
              case taq26 =>
                intro wS hSw
                (try dsimp only at hSw)
                go_simp
                (try (with_reducible rfl))
              (try simp only [List.getElem_toArray, List.getElem_cons_zero, List.getElem_cons_succ, Act.put, List.setIfInBounds_toArray, List.set_cons_zero, List.set_cons_succ])
              refine' wpAnyH_take (i := 22) (v := _) rfl (by kernel_rfl) (by kernel_rfl) (by kernel_rfl) (fun _ _ _ h => h) (Or.inl ⟨by rfl, ?taq27⟩) (by assumption) ?tbq27
              case taq27 =>
                intro wS hSw
                (try dsimp only at hSw)
                go_simp
                (try (with_reducible rfl))
              (try simp only [List.getElem_toArray, List.getElem_cons_zero, List.getElem_cons_succ, Act.put, List.setIfInBounds_toArray, List.set_cons_zero, List.set_cons_succ])
              refine wpAnyH_ready (rs := [23]) (by kernel_rfl) (by simp) ?_
              refine AllReadyH.cons rfl (fun K9 hK9 => ?_) AllReadyH.nil
              (try simp only [List.getElem_toArray, List.getElem_cons_zero, List.getElem_cons_succ])
              have hbk9 := D9.out.blk (.head _)
              have m := hbk9.cell 4
              have f := hbk9.free 4
              have hl := hbk9.lt
              simp only [rjcells, List.set_cons_zero, List.set_cons_succ, List.getElem?_cons_zero, List.getElem?_cons_succ] at  m f hl
              clear hbk9
              go_simp
              refine hK9.out _ _ trivial (fun hHeld9 => ?_)
              clear hK9 K9
              (try simp only [List.getElem_toArray, List.getElem_cons_zero, List.getElem_cons_succ, Act.put, List.setIfInBounds_toArray, List.set_cons_zero, List.set_cons_succ])
              clear m f hl
              have D10 := Lib.hid (D9.out.put 4 (.slice A6 n c6))
              generalize (w9.setCell ⟨k, 4, none⟩ (.slice A6 n c6)) = w10 at D10 ⊢
              clear D9
              refine wpAnyH_done (by kernel_rfl) ?_ _
              go_wp2
              go_ret
              rw [HC2.out]
              refine ⟨rfl, r1, HAL1.out, (1, .slice A6 n c6, bytesV b) :: rs0, SubR.cons _ _, .slice A6 n c6, ?_, ?_⟩
              · rw [HRJ.out]
                exact D10.out
              · rw [HLJ.out]
                exact .head _
          · have t4 : (ew != 0) = true := by simpa using hez
            have HC2 : Hid (commitJ j s b = ({ j with broken := true }, sw, ew)) := Lib.hid (by rw [HC.out, if_pos hez])
            clear HC hez
            go_wp2
            go_ret
            rw [HC2.out]
            exact ⟨rfl, r1, HAL1.out, rs0, SubR.refl _, _, HD1.out.put 5 (.bool true), HLV.out⟩
        | false =>
          obtain rfl : σ = 0 := HSL0.out rfl
          clear HSL HSL0
          go_enter Try.func25, Try.ntmps25
          go_wp2_with fail
          refine HROOM.out.mono ?_
          rintro en w1 ⟨rfl, rfl⟩
          go_wp2_with fail
          refine HWR.out.mono ?_
          rintro en w1 ⟨r1, rfl, hal, hkm⟩
          have HAL1 := Lib.hid hal
          have HK1 := Lib.hid hkm
          clear hal hkm HWR HROOM t1 t2
          obtain ⟨A9, c9, A8, c8, hq1, _, _, q1, q2, q3, q4, q5, _⟩ := HK1.out.cells
          obtain ⟨bv, h1, h2⟩ := HK1.out
          obtain ⟨Av, cv, rfl⟩ := h1.form1 h2
          have hbk := h1.blk (.head _)
          have f1 := hbk.free 1
          have f2 := hbk.free 2
          have f3 := hbk.free 3
          have f4 := hbk.free 4
          have f5 := hbk.free 5
          simp only at f1 f2 f3 f4 f5
          have HD1 := Lib.hid h1
          have HLV := Lib.hid h2
          clear h1 h2 hbk
          by_cases hez : ew = 0
          · subst hez
            have HC2 : Hid (commitJ j s b = ({ j with slot := 1 - j.slot, gen := j.gen + 1, last := b }, sw, 0)) := Lib.hid (by rw [HC.out, if_neg (by omega)])
            clear HC
            have hrb := HD1.out.argReads (HARG.out.mono (bs' := (k, 81, rjcells p (.slice Av (lastJ j).length cv) j) :: bs) (fun y hy => .tail _ hy) (fun y hy => hy))
            have HRB := Lib.hid hrb
            clear hrb
            have hbl1 : (bytesV b).length = n := by rw [length_bytesV, HN.out]
            have HBL1 := Lib.hid hbl1
            have HRJ : Hid (∀ A c, rjcells p (.slice A n c) { j with slot := 1 - j.slot, gen := j.gen + 1, last := b } = [.pointer (some ⟨p, 0, none⟩), .bool true, .int .i64 ((0 : Nat) : Int), .int .u32 (IntKind.u32.wrap ((j.gen : Int) + 1)), .slice A n c, .bool j.broken]) := Lib.hid (fun A c => by
              unfold rjcells hasR slotR
              simp only
              rw [if_neg (by omega), HSG.out, IntKind.wrap_u32, show ((j.gen : Int) + 1) % 4294967296 = ((j.gen + 1 : Nat) : Int) by omega]
              simp)
            have HLJ : Hid (lastJ { j with slot := 1 - j.slot, gen := j.gen + 1, last := b } = b) := Lib.hid (by unfold lastJ; simp only; rw [if_neg (by omega)])
            clear hbl1
            go_upto_region 12 with fail
            refine wp_region_held_drew (S := (fun _ => True)) (by kernel_rfl) (trivial) (fun hHeld => ?_)
            refine' wpAnyH_take (i := 0) (v := _) rfl (by kernel_rfl) (by kernel_rfl) (by kernel_rfl) (fun _ _ _ h => h) (Or.inl ⟨by rfl, ?taq28⟩) (by assumption) ?tbq28
            case taq28 =>
              intro wS hSw
              (try dsimp only at hSw)
              go_simp
              (try (with_reducible rfl))
            (try simp only [List.getElem_toArray, List.getElem_cons_zero, List.getElem_cons_succ, Act.put, List.setIfInBounds_toArray, List.set_cons_zero, List.set_cons_succ])
            refine' wpAnyH_take (i := 1) (v := _) rfl (by kernel_rfl) (by kernel_rfl) (by kernel_rfl) (fun _ _ _ h => h) (Or.inl ⟨by rfl, ?taq29⟩) (by assumption) ?tbq29
            case taq29 =>
              intro wS hSw
              (try dsimp only at hSw)
              go_simp
              (try (with_reducible rfl))
            (try simp only [List.getElem_toArray, List.getElem_cons_zero, List.getElem_cons_succ, Act.put, List.setIfInBounds_toArray, List.set_cons_zero, List.set_cons_succ])
            refine' wpAnyH_take (i := 2) (v := _) rfl (by kernel_rfl) (by kernel_rfl) (by kernel_rfl) (fun _ _ _ h => h) (Or.inl ⟨by rfl, ?taq30⟩) (by assumption) ?tbq30
            case taq30 =>
              intro wS hSw
              (try dsimp only at hSw)
              go_simp
              (try (with_reducible rfl))
            (try simp only [List.getElem_toArray, List.getElem_cons_zero, List.getElem_cons_succ, Act.put, List.setIfInBounds_toArray, List.set_cons_zero, List.set_cons_succ])
            refine' wpAnyH_take (i := 3) (v := _) rfl (by kernel_rfl) (by kernel_rfl) (by kernel_rfl) (fun _ _ _ h => h) (Or.inl ⟨by rfl, ?taq31⟩) (by assumption) ?tbq31
            case taq31 =>
              intro wS hSw
              (try dsimp only at hSw)
              go_simp
              (try (with_reducible rfl))
            (try simp only [List.getElem_toArray, List.getElem_cons_zero, List.getElem_cons_succ, Act.put, List.setIfInBounds_toArray, List.set_cons_zero, List.set_cons_succ])
            refine' wpAnyH_take (i := 4) (v := _) rfl (by kernel_rfl) (by kernel_rfl) (by kernel_rfl) (fun _ _ _ h => h) (Or.inl ⟨by rfl, ?taq32⟩) (by assumption) ?tbq32
            case taq32 =>
              intro wS hSw
              (try dsimp only at hSw)
              go_simp
              (try (with_reducible rfl))
            (try simp only [List.getElem_toArray, List.getElem_cons_zero, List.getElem_cons_succ, Act.put, List.setIfInBounds_toArray, List.set_cons_zero, List.set_cons_succ])
            refine' wpAnyH_take (i := 5) (v := _) rfl (by kernel_rfl) (by kernel_rfl) (by kernel_rfl) (fun _ _ _ h => h) (Or.inl ⟨by rfl, ?taq33⟩) (by assumption) ?tbq33
            case taq33 =>
              intro wS hSw
              (try dsimp only at hSw)
              go_simp
              (try (with_reducible rfl))
            (try simp only [List.getElem_toArray, List.getElem_cons_zero, List.getElem_cons_succ, Act.put, List.setIfInBounds_toArray, List.set_cons_zero, List.set_cons_succ])
            refine' wpAnyH_take (i := 6) (v := _) rfl (by kernel_rfl) (by kernel_rfl) (by kernel_rfl) (fun _ _ _ h => h) (Or.inl ⟨by rfl, ?taq34⟩) (by assumption) ?tbq34
            case taq34 =>
              intro wS hSw
              (try dsimp only at hSw)
              go_simp
              (try (with_reducible rfl))
            (try simp only [List.getElem_toArray, List.getElem_cons_zero, List.getElem_cons_succ, Act.put, List.setIfInBounds_toArray, List.set_cons_zero, List.set_cons_succ])
            refine' wpAnyH_take (i := 7) (v := _) rfl (by kernel_rfl) (by kernel_rfl) (by kernel_rfl) (fun _ _ _ h => h) (Or.inl ⟨by rfl, ?taq35⟩) (by assumption) ?tbq35
            case taq35 =>
              intro wS hSw
              (try dsimp only at hSw)
              go_simp
              (try (with_reducible rfl))
            (try simp only [List.getElem_toArray, List.getElem_cons_zero, List.getElem_cons_succ, Act.put, List.setIfInBounds_toArray, List.set_cons_zero, List.set_cons_succ])
            refine' wpAnyH_take (i := 10) (v := _) rfl (by kernel_rfl) (by kernel_rfl) (by kernel_rfl) (fun _ _ _ h => h) (Or.inl ⟨by rfl, ?taq36⟩) (by assumption) ?tbq36
            case taq36 =>
              intro wS hSw
              (try dsimp only at hSw)
              go_simp
              (try (with_reducible rfl))
            (try simp only [List.getElem_toArray, List.getElem_cons_zero, List.getElem_cons_succ, Act.put, List.setIfInBounds_toArray, List.set_cons_zero, List.set_cons_succ])
            refine wpAnyH_ready (rs := [8, 11]) (by kernel_rfl) (by simp) ?_
            refine AllReadyH.cons rfl (fun K9 hK9 => ?_) (AllReadyH.cons rfl (fun K9 hK9 => ?_) AllReadyH.nil)
            · (try simp only [List.getElem_toArray, List.getElem_cons_zero, List.getElem_cons_succ])
              have hbk9 := HD1.out.drew.blk (.head _)
              have m3 := hbk9.cell 3
              have hl := hbk9.lt
              simp only [rjcells, List.set_cons_zero, List.set_cons_succ, List.getElem?_cons_zero, List.getElem?_cons_succ] at  m3 hl
              clear hbk9
              go_simp
              refine hK9.out _ _ trivial (fun hHeld9 => ?_)
              clear hK9 K9
              (try simp only [List.getElem_toArray, List.getElem_cons_zero, List.getElem_cons_succ, Act.put, List.setIfInBounds_toArray, List.set_cons_zero, List.set_cons_succ])
              clear m3 hl
              refine' wpAnyH_take (i := 9) (v := _) rfl (by kernel_rfl) (by kernel_rfl) (by kernel_rfl) (fun _ _ _ h => h) (Or.inl ⟨by rfl, ?taq37⟩) (by assumption) ?tbq37
              case taq37 =>
                intro wS hSw
                (try dsimp only at hSw)
                go_simp
                (try (with_reducible rfl))
              (try simp only [List.getElem_toArray, List.getElem_cons_zero, List.getElem_cons_succ, Act.put, List.setIfInBounds_toArray, List.set_cons_zero, List.set_cons_succ])
              refine wpAnyH_ready (rs := [11]) (by kernel_rfl) (by simp) ?_
              refine AllReadyH.cons rfl (fun K9 hK9 => ?_) AllReadyH.nil
              (try simp only [List.getElem_toArray, List.getElem_cons_zero, List.getElem_cons_succ])
              rw [if_pos (by rfl)]
              refine wp_extend elem_byte _ _ _ (by rfl) w1.heap.size 0 (.slice none 0 0) [] (by rfl) (World.ownsRow_nil _ _ _ _) _ _ (bytesV b) (by rfl) HRB.out.drew (bytesV_one _) (by rw [HBL1.out]; have := HNM.out; unfold maxLen; omega) (by rw [HBL1.out]; have := HNM.out; omega) (Nat.le_refl _) ?_
              intro A6 c6 w6 hown6 hg6 hf6
              rw [HBL1.out, Nat.zero_add, List.nil_append] at hown6
              rw [HBL1.out]
              simp only [Nat.zero_add] at hf6 ⊢
              have hb6 := (Below.refl w1.drew.heap.size w1.drew).grown hg6 (Nat.le_refl _) (fun k hk => by cases hk)
              have D6 := Lib.hid (HD1.out.drew.read hb6 (own_readsIn (T := fun i => w1.drew.heap.size ≤ i) (by omega) hown6 (fun i hi => (hown6.lt i hi).1)))
              clear hown6 hg6 hf6 hb6
              refine hK9.out _ _ trivial (fun hHeld9 => ?_)
              clear hK9 K9
              (try simp only [List.getElem_toArray, List.getElem_cons_zero, List.getElem_cons_succ, Act.put, List.setIfInBounds_toArray, List.set_cons_zero, List.set_cons_succ])
              refine' wpAnyH_take (i := 12) (v := _) rfl (by kernel_rfl) (by kernel_rfl) (by kernel_rfl) (fun _ _ _ h => h) (Or.inl ⟨by rfl, ?taq38⟩) (by assumption) ?tbq38
              case taq38 =>
                intro wS hSw
                (try dsimp only at hSw)
                go_simp
                (try (with_reducible rfl))
              (try simp only [List.getElem_toArray, List.getElem_cons_zero, List.getElem_cons_succ, Act.put, List.setIfInBounds_toArray, List.set_cons_zero, List.set_cons_succ])
              refine' wpAnyH_take (i := 13) (v := _) rfl (by kernel_rfl) (by kernel_rfl) (by kernel_rfl) (fun _ _ _ h => h) (Or.inl ⟨by rfl, ?taq39⟩) (by assumption) ?tbq39
              case taq39 =>
                intro wS hSw
                (try dsimp only at hSw)
                go_simp
                (try (with_reducible rfl))
              (try simp only [List.getElem_toArray, List.getElem_cons_zero, List.getElem_cons_succ, Act.put, List.setIfInBounds_toArray, List.set_cons_zero, List.set_cons_succ])
              refine wpAnyH_ready (rs := [14]) (by kernel_rfl) (by simp) ?_
              refine AllReadyH.cons rfl (fun K9 hK9 => ?_) AllReadyH.nil
              (try simp only [List.getElem_toArray, List.getElem_cons_zero, List.getElem_cons_succ])
              have hbk9 := D6.out.blk (.head _)
              have m := hbk9.cell 1
              have f := hbk9.free 1
              have hl := hbk9.lt
              simp only [rjcells, List.set_cons_zero, List.set_cons_succ, List.getElem?_cons_zero, List.getElem?_cons_succ] at  m f hl
              clear hbk9
              go_simp
              refine hK9.out _ _ trivial (fun hHeld9 => ?_)
              clear hK9 K9
              (try simp only [List.getElem_toArray, List.getElem_cons_zero, List.getElem_cons_succ, Act.put, List.setIfInBounds_toArray, List.set_cons_zero, List.set_cons_succ])
              clear m f hl
              have D7 := Lib.hid (D6.out.put 1 (.bool true))
              generalize (w6.setCell ⟨k, 1, none⟩ (.bool true)) = w7 at D7 ⊢
              clear D6
              refine' wpAnyH_take (i := 15) (v := _) rfl (by kernel_rfl) (by kernel_rfl) (by kernel_rfl) (fun _ _ _ h => h) (Or.inl ⟨by rfl, ?taq40⟩) (by assumption) ?tbq40
              case taq40 =>
                intro wS hSw
                (try dsimp only at hSw)
                go_simp
                (try (with_reducible rfl))
              (try simp only [List.getElem_toArray, List.getElem_cons_zero, List.getElem_cons_succ, Act.put, List.setIfInBounds_toArray, List.set_cons_zero, List.set_cons_succ])
              refine' wpAnyH_take (i := 16) (v := _) rfl (by kernel_rfl) (by kernel_rfl) (by kernel_rfl) (fun _ _ _ h => h) (Or.inl ⟨by rfl, ?taq41⟩) (by assumption) ?tbq41
              case taq41 =>
                intro wS hSw
                (try dsimp only at hSw)
                go_simp
                (try (with_reducible rfl))
              (try simp only [List.getElem_toArray, List.getElem_cons_zero, List.getElem_cons_succ, Act.put, List.setIfInBounds_toArray, List.set_cons_zero, List.set_cons_succ])
              refine wpAnyH_ready (rs := [17]) (by kernel_rfl) (by simp) ?_
              refine AllReadyH.cons rfl (fun K9 hK9 => ?_) AllReadyH.nil
              (try simp only [List.getElem_toArray, List.getElem_cons_zero, List.getElem_cons_succ])
              have hbk9 := D7.out.blk (.head _)
              have m := hbk9.cell 2
              have f := hbk9.free 2
              have hl := hbk9.lt
              simp only [rjcells, List.set_cons_zero, List.set_cons_succ, List.getElem?_cons_zero, List.getElem?_cons_succ] at  m f hl
              clear hbk9
              go_simp
              refine hK9.out _ _ trivial (fun hHeld9 => ?_)
              clear hK9 K9
              (try simp only [List.getElem_toArray, List.getElem_cons_zero, List.getElem_cons_succ, Act.put, List.setIfInBounds_toArray, List.set_cons_zero, List.set_cons_succ])
              clear m f hl
              have D8 := Lib.hid (D7.out.put 2 (.int .i64 0))
              generalize (w7.setCell ⟨k, 2, none⟩ (.int .i64 0)) = w8 at D8 ⊢
              clear D7
              refine' wpAnyH_take (i := 18) (v := _) rfl (by kernel_rfl) (by kernel_rfl) (by kernel_rfl) (fun _ _ _ h => h) (Or.inl ⟨by rfl, ?taq42⟩) (by assumption) ?tbq42
              case taq42 =>
                intro wS hSw
                (try dsimp only at hSw)
                go_simp
                (try (with_reducible rfl))
              (try simp only [List.getElem_toArray, List.getElem_cons_zero, List.getElem_cons_succ, Act.put, List.setIfInBounds_toArray, List.set_cons_zero, List.set_cons_succ])
              refine' wpAnyH_take (i := 19) (v := _) rfl (by kernel_rfl) (by kernel_rfl) (by kernel_rfl) (fun _ _ _ h => h) (Or.inl ⟨by rfl, ?taq43⟩) (by assumption) ?tbq43
              case taq43 =>
                intro wS hSw
                (try dsimp only at hSw)
                go_simp
                (try (with_reducible rfl))
              (try simp only [List.getElem_toArray, List.getElem_cons_zero, List.getElem_cons_succ, Act.put, List.setIfInBounds_toArray, List.set_cons_zero, List.set_cons_succ])
              refine wpAnyH_ready (rs := [20]) (by kernel_rfl) (by simp) ?_
              refine AllReadyH.cons rfl (fun K9 hK9 => ?_) AllReadyH.nil
              (try simp only [List.getElem_toArray, List.getElem_cons_zero, List.getElem_cons_succ])
              have hbk9 := D8.out.blk (.head _)
              have m := hbk9.cell 3
              have f := hbk9.free 3
              have hl := hbk9.lt
              simp only [rjcells, List.set_cons_zero, List.set_cons_succ, List.getElem?_cons_zero, List.getElem?_cons_succ] at  m f hl
              clear hbk9
              go_simp
              refine hK9.out _ _ trivial (fun hHeld9 => ?_)
              clear hK9 K9
              (try simp only [List.getElem_toArray, List.getElem_cons_zero, List.getElem_cons_succ, Act.put, List.setIfInBounds_toArray, List.set_cons_zero, List.set_cons_succ])
              clear m f hl
              have D9 := Lib.hid (D8.out.put 3 (.int .u32 (IntKind.u32.wrap ((j.gen : Int) + 1))))
              generalize (w8.setCell ⟨k, 3, none⟩ (.int .u32 (IntKind.u32.wrap ((j.gen : Int) + 1)))) = w9 at D9 ⊢
              clear D8
              refine' wpAnyH_take (i := 21) (v := _) rfl (by kernel_rfl) (by kernel_rfl) (by kernel_rfl) (fun _ _ _ h => h) (Or.inl ⟨by rfl, ?taq44⟩) (by assumption) ?tbq44
              case taq44 =>
                intro wS hSw
                (try dsimp only at hSw)
                go_simp
                (try (with_reducible rfl))
              (try simp only [List.getElem_toArray, List.getElem_cons_zero, List.getElem_cons_succ, Act.put, List.setIfInBounds_toArray, List.set_cons_zero, List.set_cons_succ])
              refine' wpAnyH_take (i := 22) (v := _) rfl (by kernel_rfl) (by kernel_rfl) (by kernel_rfl) (fun _ _ _ h => h) (Or.inl ⟨by rfl, ?taq45⟩) (by assumption) ?tbq45
              case taq45 =>
                intro wS hSw
                (try dsimp only at hSw)
                go_simp
                (try (with_reducible rfl))
              (try simp only [List.getElem_toArray, List.getElem_cons_zero, List.getElem_cons_succ, Act.put, List.setIfInBounds_toArray, List.set_cons_zero, List.set_cons_succ])
              refine wpAnyH_ready (rs := [23]) (by kernel_rfl) (by simp) ?_
              refine AllReadyH.cons rfl (fun K9 hK9 => ?_) AllReadyH.nil
              (try simp only [List.getElem_toArray, List.getElem_cons_zero, List.getElem_cons_succ])
              have hbk9 := D9.out.blk (.head _)
              have m := hbk9.cell 4
              have f := hbk9.free 4
              have hl := hbk9.lt
              simp only [rjcells, List.set_cons_zero, List.set_cons_succ, List.getElem?_cons_zero, List.getElem?_cons_succ] at  m f hl
              clear hbk9
              go_simp
              refine hK9.out _ _ trivial (fun hHeld9 => ?_)
              clear hK9 K9
              (try simp only [List.getElem_toArray, List.getElem_cons_zero, List.getElem_cons_succ, Act.put, List.setIfInBounds_toArray, List.set_cons_zero, List.set_cons_succ])
              clear m f hl
              have D10 := Lib.hid (D9.out.put 4 (.slice A6 n c6))
              generalize (w9.setCell ⟨k, 4, none⟩ (.slice A6 n c6)) = w10 at D10 ⊢
              clear D9
              refine wpAnyH_done (by kernel_rfl) ?_ _
              go_wp2
              go_ret
              rw [HC2.out]
              refine ⟨rfl, r1, HAL1.out, (1, .slice A6 n c6, bytesV b) :: rs0, SubR.cons _ _, .slice A6 n c6, ?_, ?_⟩
              · rw [HRJ.out]
                exact D10.out
              · rw [HLJ.out]
                exact .head _
            · (try simp only [List.getElem_toArray, List.getElem_cons_zero, List.getElem_cons_succ])
              rw [if_pos (by rfl)]
              refine wp_extend elem_byte _ _ _ (by rfl) w1.heap.size 0 (.slice none 0 0) [] (by rfl) (World.ownsRow_nil _ _ _ _) _ _ (bytesV b) (by rfl) HRB.out.drew (bytesV_one _) (by rw [HBL1.out]; have := HNM.out; unfold maxLen; omega) (by rw [HBL1.out]; have := HNM.out; omega) (Nat.le_refl _) ?_
              intro A6 c6 w6 hown6 hg6 hf6
              rw [HBL1.out, Nat.zero_add, List.nil_append] at hown6
              rw [HBL1.out]
              simp only [Nat.zero_add] at hf6 ⊢
              have hb6 := (Below.refl w1.drew.heap.size w1.drew).grown hg6 (Nat.le_refl _) (fun k hk => by cases hk)
              have D6 := Lib.hid (HD1.out.drew.read hb6 (own_readsIn (T := fun i => w1.drew.heap.size ≤ i) (by omega) hown6 (fun i hi => (hown6.lt i hi).1)))
              clear hown6 hg6 hf6 hb6
              refine hK9.out _ _ trivial (fun hHeld9 => ?_)
              clear hK9 K9
              (try simp only [List.getElem_toArray, List.getElem_cons_zero, List.getElem_cons_succ, Act.put, List.setIfInBounds_toArray, List.set_cons_zero, List.set_cons_succ])
              refine wpAnyH_ready (rs := [8]) (by kernel_rfl) (by simp) ?_
              refine AllReadyH.cons rfl (fun K9 hK9 => ?_) AllReadyH.nil
              (try simp only [List.getElem_toArray, List.getElem_cons_zero, List.getElem_cons_succ])
              have hbk9 := D6.out.blk (.head _)
              have m3 := hbk9.cell 3
              have hl := hbk9.lt
              simp only [rjcells, List.set_cons_zero, List.set_cons_succ, List.getElem?_cons_zero, List.getElem?_cons_succ] at  m3 hl
              clear hbk9
              go_simp
              refine hK9.out _ _ trivial (fun hHeld9 => ?_)
              clear hK9 K9
              (try simp only [List.getElem_toArray, List.getElem_cons_zero, List.getElem_cons_succ, Act.put, List.setIfInBounds_toArray, List.set_cons_zero, List.set_cons_succ])
              clear m3 hl
              refine' wpAnyH_take (i := 9) (v := _) rfl (by kernel_rfl) (by kernel_rfl) (by kernel_rfl) (fun _ _ _ h => h) (Or.inl ⟨by rfl, ?taq46⟩) (by assumption) ?tbq46
              case taq46 =>
                intro wS hSw
                (try dsimp only at hSw)
                go_simp
                (try (with_reducible rfl))
              (try simp only [List.getElem_toArray, List.getElem_cons_zero, List.getElem_cons_succ, Act.put, List.setIfInBounds_toArray, List.set_cons_zero, List.set_cons_succ])
              refine' wpAnyH_take (i := 12) (v := _) rfl (by kernel_rfl) (by kernel_rfl) (by kernel_rfl) (fun _ _ _ h => h) (Or.inl ⟨by rfl, ?taq47⟩) (by assumption) ?tbq47
              case taq47 =>
                intro wS hSw
                (try dsimp only at hSw)
                go_simp
                (try (with_reducible rfl))
              (try simp only [List.getElem_toArray, List.getElem_cons_zero, List.getElem_cons_succ, Act.put, List.setIfInBounds_toArray, List.set_cons_zero, List.set_cons_succ])
              refine' wpAnyH_take (i := 13) (v := _) rfl (by kernel_rfl) (by kernel_rfl) (by kernel_rfl) (fun _ _ _ h => h) (Or.inl ⟨by rfl, ?taq48⟩) (by assumption) ?tbq48
              case taq48 =>
                intro wS hSw
                (try dsimp only at hSw)
                go_simp
                (try (with_reducible rfl))
              (try simp only [List.getElem_toArray, List.getElem_cons_zero, List.getElem_cons_succ, Act.put, List.setIfInBounds_toArray, List.set_cons_zero, List.set_cons_succ])
              refine wpAnyH_ready (rs := [14]) (by kernel_rfl) (by simp) ?_
              refine AllReadyH.cons rfl (fun K9 hK9 => ?_) AllReadyH.nil
              (try simp only [List.getElem_toArray, List.getElem_cons_zero, List.getElem_cons_succ])
              have hbk9 := D6.out.blk (.head _)
              have m := hbk9.cell 1
              have f := hbk9.free 1
              have hl := hbk9.lt
              simp only [rjcells, List.set_cons_zero, List.set_cons_succ, List.getElem?_cons_zero, List.getElem?_cons_succ] at  m f hl
              clear hbk9
              go_simp
              refine hK9.out _ _ trivial (fun hHeld9 => ?_)
              clear hK9 K9
              (try simp only [List.getElem_toArray, List.getElem_cons_zero, List.getElem_cons_succ, Act.put, List.setIfInBounds_toArray, List.set_cons_zero, List.set_cons_succ])
              clear m f hl
              have D7 := Lib.hid (D6.out.put 1 (.bool true))
              generalize (w6.setCell ⟨k, 1, none⟩ (.bool true)) = w7 at D7 ⊢
              clear D6
              refine' wpAnyH_take (i := 15) (v := _) rfl (by kernel_rfl) (by kernel_rfl) (by kernel_rfl) (fun _ _ _ h => h) (Or.inl ⟨by rfl, ?taq49⟩) (by assumption) ?tbq49
              case taq49 =>
                intro wS hSw
                (try dsimp only at hSw)
                go_simp
                (try (with_reducible rfl))
              (try simp only [List.getElem_toArray, List.getElem_cons_zero, List.getElem_cons_succ, Act.put, List.setIfInBounds_toArray, List.set_cons_zero, List.set_cons_succ])
              refine' wpAnyH_take (i := 16) (v := _) rfl (by kernel_rfl) (by kernel_rfl) (by kernel_rfl) (fun _ _ _ h => h) (Or.inl ⟨by rfl, ?taq50⟩) (by assumption) ?tbq50
              case taq50 =>
                intro wS hSw
                (try dsimp only at hSw)
                go_simp
                (try (with_reducible rfl))
              (try simp only [List.getElem_toArray, List.getElem_cons_zero, List.getElem_cons_succ, Act.put, List.setIfInBounds_toArray, List.set_cons_zero, List.set_cons_succ])
              refine wpAnyH_ready (rs := [17]) (by kernel_rfl) (by simp) ?_
              refine AllReadyH.cons rfl (fun K9 hK9 => ?_) AllReadyH.nil
              (try simp only [List.getElem_toArray, List.getElem_cons_zero, List.getElem_cons_succ])
              have hbk9 := D7.out.blk (.head _)
              have m := hbk9.cell 2
              have f := hbk9.free 2
              have hl := hbk9.lt
              simp only [rjcells, List.set_cons_zero, List.set_cons_succ, List.getElem?_cons_zero, List.getElem?_cons_succ] at  m f hl
              clear hbk9
              go_simp
              refine hK9.out _ _ trivial (fun hHeld9 => ?_)
              clear hK9 K9
              (try simp only [List.getElem_toArray, List.getElem_cons_zero, List.getElem_cons_succ, Act.put, List.setIfInBounds_toArray, List.set_cons_zero, List.set_cons_succ])
              clear m f hl
              have D8 := Lib.hid (D7.out.put 2 (.int .i64 0))
              generalize (w7.setCell ⟨k, 2, none⟩ (.int .i64 0)) = w8 at D8 ⊢
              clear D7
              refine' wpAnyH_take (i := 18) (v := _) rfl (by kernel_rfl) (by kernel_rfl) (by kernel_rfl) (fun _ _ _ h => h) (Or.inl ⟨by rfl, ?taq51⟩) (by assumption) ?tbq51
              case taq51 =>
                intro wS hSw
                (try dsimp only at hSw)
                go_simp
                (try (with_reducible rfl))
              (try simp only [List.getElem_toArray, List.getElem_cons_zero, List.getElem_cons_succ, Act.put, List.setIfInBounds_toArray, List.set_cons_zero, List.set_cons_succ])
              refine' wpAnyH_take (i := 19) (v := _) rfl (by kernel_rfl) (by kernel_rfl) (by kernel_rfl) (fun _ _ _ h => h) (Or.inl ⟨by rfl, ?taq52⟩) (by assumption) ?tbq52
              case taq52 =>
                intro wS hSw
                (try dsimp only at hSw)
                go_simp
                (try (with_reducible rfl))
              (try simp only [List.getElem_toArray, List.getElem_cons_zero, List.getElem_cons_succ, Act.put, List.setIfInBounds_toArray, List.set_cons_zero, List.set_cons_succ])
              refine wpAnyH_ready (rs := [20]) (by kernel_rfl) (by simp) ?_
              refine AllReadyH.cons rfl (fun K9 hK9 => ?_) AllReadyH.nil
              (try simp only [List.getElem_toArray, List.getElem_cons_zero, List.getElem_cons_succ])
              have hbk9 := D8.out.blk (.head _)
              have m := hbk9.cell 3
              have f := hbk9.free 3
              have hl := hbk9.lt
              simp only [rjcells, List.set_cons_zero, List.set_cons_succ, List.getElem?_cons_zero, List.getElem?_cons_succ] at  m f hl
              clear hbk9
              go_simp
              refine hK9.out _ _ trivial (fun hHeld9 => ?_)
              clear hK9 K9
              (try simp only [List.getElem_toArray, List.getElem_cons_zero, List.getElem_cons_succ, Act.put, List.setIfInBounds_toArray, List.set_cons_zero, List.set_cons_succ])
              clear m f hl
              have D9 := Lib.hid (D8.out.put 3 (.int .u32 (IntKind.u32.wrap ((j.gen : Int) + 1))))
              generalize (w8.setCell ⟨k, 3, none⟩ (.int .u32 (IntKind.u32.wrap ((j.gen : Int) + 1)))) = w9 at D9 ⊢
              clear D8
              refine' wpAnyH_take (i := 21) (v := _) rfl (by kernel_rfl) (by kernel_rfl) (by kernel_rfl) (fun _ _ _ h => h) (Or.inl ⟨by rfl, ?taq53⟩) (by assumption) ?tbq53
              case taq53 =>
                intro wS hSw
                (try dsimp only at hSw)
                go_simp
                (try (with_reducible rfl))
              (try simp only [List.getElem_toArray, List.getElem_cons_zero, List.getElem_cons_succ, Act.put, List.setIfInBounds_toArray, List.set_cons_zero, List.set_cons_succ])
              refine' wpAnyH_take (i := 22) (v := _) rfl (by kernel_rfl) (by kernel_rfl) (by kernel_rfl) (fun _ _ _ h => h) (Or.inl ⟨by rfl, ?taq54⟩) (by assumption) ?tbq54
              case taq54 =>
                intro wS hSw
                (try dsimp only at hSw)
                go_simp
                (try (with_reducible rfl))
              (try simp only [List.getElem_toArray, List.getElem_cons_zero, List.getElem_cons_succ, Act.put, List.setIfInBounds_toArray, List.set_cons_zero, List.set_cons_succ])
              refine wpAnyH_ready (rs := [23]) (by kernel_rfl) (by simp) ?_
              refine AllReadyH.cons rfl (fun K9 hK9 => ?_) AllReadyH.nil
              (try simp only [List.getElem_toArray, List.getElem_cons_zero, List.getElem_cons_succ])
              have hbk9 := D9.out.blk (.head _)
              have m := hbk9.cell 4
              have f := hbk9.free 4
              have hl := hbk9.lt
              simp only [rjcells, List.set_cons_zero, List.set_cons_succ, List.getElem?_cons_zero, List.getElem?_cons_succ] at  m f hl
              clear hbk9
              go_simp
              refine hK9.out _ _ trivial (fun hHeld9 => ?_)
              clear hK9 K9
              (try simp only [List.getElem_toArray, List.getElem_cons_zero, List.getElem_cons_succ, Act.put, List.setIfInBounds_toArray, List.set_cons_zero, List.set_cons_succ])
              clear m f hl
              have D10 := Lib.hid (D9.out.put 4 (.slice A6 n c6))
              generalize (w9.setCell ⟨k, 4, none⟩ (.slice A6 n c6)) = w10 at D10 ⊢
              clear D9
              refine wpAnyH_done (by kernel_rfl) ?_ _
              go_wp2
              go_ret
              rw [HC2.out]
              refine ⟨rfl, r1, HAL1.out, (1, .slice A6 n c6, bytesV b) :: rs0, SubR.cons _ _, .slice A6 n c6, ?_, ?_⟩
              · rw [HRJ.out]
                exact D10.out
              · rw [HLJ.out]
                exact .head _
          · have t4 : (ew != 0) = true := by simpa using hez
            have HC2 : Hid (commitJ j s b = ({ j with broken := true }, sw, ew)) := Lib.hid (by rw [HC.out, if_pos hez])
            clear HC hez
            go_wp2
            go_ret
            rw [HC2.out]
            exact ⟨rfl, r1, HAL1.out, rs0, SubR.refl _, _, HD1.out.put 5 (.bool true), HLV.out⟩
end
end Go.Proofs.Ytjddplddpdcmdaa
