/- Contract of journal.Open. -/
import Derived.Test.YtjddplddpdcmdaaJrRead
namespace Go.Proofs.Ytjddplddpdcmdaa
open Go.RowKit
set_option linter.unusedVariables false
set_option linter.unusedSimpArgs false

def upJ (s : Dk) : Nat → Jr
  | 0 => freshJ s
  | k + 1 => stepJ (upJ s k) k (readJ s (s.now.length / 2) k)
theorem upJ_two (s : Dk) : upJ s 2 = foundJ s := rfl
theorem stepJ_half (j : Jr) (k : Nat) (r : List UInt8 × Nat) : (stepJ j k r).half = j.half ∧ (stepJ j k r).broken = j.broken := by
  unfold stepJ
  split <;> exact ⟨rfl, rfl⟩
theorem upJ_half (s : Dk) : ∀ k, (upJ s k).half = s.now.length / 2 ∧ (upJ s k).broken = false
  | 0 => ⟨rfl, rfl⟩
  | k + 1 => by rw [upJ, (stepJ_half _ _ _).1, (stepJ_half _ _ _).2]; exact upJ_half s k
theorem headB_gen (gen : Nat) (b : List UInt8) (h : gen < 4294967296) : deB (((headB gen b).drop 4).take 4) = gen := by
  have e : ((headB gen b).drop 4).take 4 = beB gen 4 := by
    unfold headB headCore
    simp only [List.append_assoc]
    rw [show ([112, 100, 103, 113] : List UInt8) = [112, 100, 103, 113] from rfl, List.drop_append_of_le_length (by simp)]
    simp only [List.length_cons, List.length_nil, List.drop_succ_cons, List.drop_zero, List.nil_append]
    rw [List.take_append_of_le_length (by rw [length_beB]; exact Nat.le_refl _), List.take_of_length_le (by rw [length_beB]; exact Nat.le_refl _)]
  rw [e, de_be]
  exact Nat.mod_eq_of_lt (by omega)
theorem readJ_ok (s : Dk) (half σ : Nat) : (readJ s half σ).2 < 4294967296 ∧ (readJ s half σ).1.length ≤ (half - 1) * 64 := by
  unfold readJ
  simp only
  split
  · exact ⟨by decide, by simp⟩
  · split
    · refine ⟨deB4 _, ?_⟩
      rw [List.length_take]
      omega
    · exact ⟨by decide, by simp⟩
theorem upJ_ok (s : Dk) (h4 : 4 ≤ s.now.length) (h9 : s.now.length ≤ 4096) : ∀ k, k ≤ 2 → (upJ s k).Ok s.now.length
  | 0, _ => ⟨rfl, h4, h9, by simp [upJ, freshJ], by simp [upJ, freshJ], by simp [upJ, freshJ]⟩
  | k + 1, hk => by
    have ih := upJ_ok s h4 h9 k (by omega)
    have hr := readJ_ok s (s.now.length / 2) k
    rw [upJ]
    unfold stepJ
    split
    · exact ⟨ih.half, h4, h9, by simp; omega, by simp only; omega, by simp only; rw [ih.half]; exact hr.2⟩
    · exact ih
section
variable {w0 w W W' : World} {ds ds' : List (Nat × Dk)} {bs bs' : List (Nat × TypeId × List Value)} {rs rs' rs0 : List (Nat × Value × List Value)} {d q g k n : Nat} {s s' : Dk} {j j' : Jr} {v u : Value} {t : TypeId} {cs : List Value}
theorem Dk.flush_len (s : Dk) : s.flush.1.now.length = s.now.length := by
  unfold Dk.flush
  split <;> rfl
theorem JD.dm (h : JD w0 W ds d s q j bs rs) : DM w0 W ((d, s) :: ds) bs rs := by
  obtain ⟨lv, h1, h2, h3⟩ := h
  exact h1.dropB
theorem jd_flush (h : JD w0 W ds d s q j bs rs) (ho : s.ops < 1000000000) :
    Calls Try.prog 33 #[.pointer (some ⟨d, 0, none⟩)] W fun en W' => en = .returned (.int .i64 s.flush.2) ∧ JD w0 W' ds d s.flush.1 q j bs rs := by
  obtain ⟨lv, h1, h2, h3⟩ := h
  exact (dm_flush h1 ho).mono fun en W' ⟨he, h⟩ => ⟨he, lv, h, h2, by rw [Dk.flush_len]; exact h3⟩
theorem JD.fresh (h : DM w0 W ((d, s) :: ds) bs rs) (h4 : 4 ≤ s.now.length) (n : Nat) (hn : s.now.length / 2 = n) :
    JD w0 (W.alloc (.cells #[.pointer (some ⟨d, 0, none⟩), .int .i64 (n : Int), .int .i64 1, .int .u32 0, .slice none 0 0, .bool false] 66)) ds d s W.heap.size (upJ s 0) bs ((1, .slice none 0 0, []) :: rs) := by
  subst hn
  refine ⟨.slice none 0 0, ?_, .head _, upJ_ok s h4 h.ok.most 0 (by omega)⟩
  exact (h.more ((Below.refl _ W).alloc (Nat.le_refl _) _) (Nat.le_refl _) (Blk.fresh W _ _)).read (Below.refl _ _) (ReadsIn.nil_ _ _)
set_option maxHeartbeats 6400000 in
set_option maxRecDepth 100000 in
theorem jopen_any (h : DM w0 W ((d, s) :: ds) bs rs) (ho : s.ops < 1000000000) : Calls Try.prog 11 #[.pointer (some ⟨d, 0, none⟩)] W fun en W' =>
    ((openJ s).2.1 ≠ 0 ∧ en = .returned (.tuple #[.pointer none, .int .i64 (openJ s).2.1]) ∧ DM w0 W' ((d, (openJ s).1) :: ds) bs rs) ∨
    ((openJ s).2.1 = 0 ∧ ∃ q rs', en = .returned (.tuple #[.pointer (some ⟨q, 0, none⟩), .int .i64 0]) ∧ (∀ x ∈ rs, x ∈ rs') ∧ JD w0 W' ds d (openJ s).1 q (openJ s).2.2 bs rs') := by
  have hm := h.ok.most
  have HD := Lib.hid h
  obtain ⟨N, hN⟩ : ∃ N, s.now.length = N := ⟨_, rfl⟩
  have HN := Lib.hid hN
  have HLEN := Lib.hid (dm_len h)
  rw [hN] at HLEN
  have hm9 : N ≤ 4096 := by omega
  have HO := Lib.hid ho
  by_cases h4 : N < 4
  · have t1 : decide ((N : Int) < 4) = true := by simp; omega
    have HE : Hid (openJ s = (s, 1, foundJ s)) := Lib.hid (by unfold openJ; rw [if_pos (by omega)])
    clear h hm hN ho h4
    go_enter Try.func11, Try.ntmps11
    go_wp2_with fail
    refine HLEN.out.mono ?_
    rintro en w1 ⟨rfl, rfl⟩
    go_wp2
    refine bodyPost_ret (v := .tuple #[.pointer none, .int .i64 1]) (by simp [results, Try.results11, go_sem]) rfl ?_
    rw [HE.out]
    exact .inl ⟨by simp, rfl, HD.out⟩
  · have t1 : decide ((N : Int) < 4) = false := by simp; omega
    have H4 : Hid (4 ≤ s.now.length) := Lib.hid (by omega)
    obtain ⟨hf, hhf⟩ : ∃ hf, N / 2 = hf := ⟨_, rfl⟩
    have e1 : ((N : Int)).tdiv 2 = (hf : Int) := by rw [Int.tdiv_eq_ediv_of_nonneg (by omega)]; omega
    have hf4 : (hf : Int) ≤ 4096 := by omega
    have HJ0 := Lib.hid (JD.fresh h (by omega) hf (by rw [hN]; exact hhf))
    clear h hm hN ho h4 hhf
    go_enter Try.func11, Try.ntmps11
    go_wp2_with fail
    refine HLEN.out.mono ?_
    rintro en w1 ⟨rfl, rfl⟩
    go_wp2_with fail
    refine HLEN.out.mono ?_
    rintro en w1 ⟨rfl, rfl⟩
    have hw : wrap64 (hf : Int) = (hf : Int) := by unfold wrap64; omega
    go_wp2
    have HF : Hid (s.now.length / 2 = hf) := Lib.hid (by rw [HN.out]; have := e1; rw [Int.tdiv_eq_ediv_of_nonneg (by omega)] at this; omega)
    obtain ⟨dn, hdn⟩ : ∃ d, s.down = d := ⟨_, rfl⟩
    have HDN := Lib.hid hdn
    clear hdn
    go_loopw [19] (fun i wr => ∃ (k : Nat) (rs' : List (Nat × Value × List Value)), k ≤ 2 ∧ i = .int .i64 k ∧ Hid (∀ x ∈ rs, x ∈ rs') ∧ Hid (JD w0 wr ds d s W.heap.size (upJ s k) bs rs') ∧ Hid (dn = true → k = 0)) (fun i _ => 2 - (intOf i).toNat)
    case atStart => exact ⟨0, _, by omega, rfl, Lib.hid (fun x hx => .tail _ hx), HJ0, Lib.hid (fun _ => rfl)⟩
    case round =>
      obtain ⟨k, rs', hk, rfl, hsub, hj, hk0⟩ := hrel
      clear HJ0 e1
      by_cases hlt : k < 2
      · have i1 : (k : Int) < 2 := by omega
        have i0 : (0 : Int) ≤ (k : Int) := by omega
        have HK1 : Hid (k ≤ 1) := Lib.hid (by omega)
        cases dn with
        | true =>
          have HE : Hid (openJ s = (s, 9, foundJ s)) := Lib.hid (by unfold openJ; rw [if_neg (by have := H4.out; omega), if_pos HDN.out])
          go_wp2_with fail
          refine (jread_down hj.out k HK1.out HDN.out).mono ?_
          rintro en w2 ⟨rfl, hb⟩
          have HJ2 := Lib.hid (hj.out.below hb)
          clear hb hj
          dsimp only
          go_wp2
          refine bodyPost_ret (v := .tuple #[.pointer none, .int .i64 9]) (by simp [results, Try.results11, go_sem]) rfl ?_
          rw [HE.out]
          exact .inl ⟨by simp, rfl, HJ2.out.dm.subR hsub.out⟩
        | false =>
          obtain ⟨⟨b, g⟩, hrj⟩ : ∃ r, readJ s (s.now.length / 2) k = r := ⟨_, rfl⟩
          have hgl := (readJ_ok s (s.now.length / 2) k).1
          rw [hrj] at hgl
          simp only at hgl
          have HUP : Hid (upJ s (k + 1) = stepJ (upJ s k) k (b, g)) := Lib.hid (by rw [upJ, hrj])
          have HRJ : Hid (readJ s (upJ s k).half k = (b, g)) := Lib.hid (by rw [(upJ_half s k).1, hrj])
          have HOK := Lib.hid (upJ_ok s H4.out (by rw [HN.out]; exact hm9) (k + 1) (by omega))
          clear hrj
          generalize hup : upJ s (k + 1) = jn at HUP HOK
          generalize hup2 : upJ s k = jc at hj HUP HRJ
          have HUJ := Lib.hid hup
          clear hup hup2
          obtain ⟨A9, c9, hq9, _, _, _, q3, _, _, _⟩ := hj.out.cells
          have hgc := hj.out.ok.gen
          go_wp2_with fail
          refine (jread_any hj.out k HK1.out HDN.out).mono ?_
          rw [HRJ.out]
          rintro en w2 ⟨A2, n2, c2, rfl, hb, hr⟩
          have q3' := (hb.cell (p := ⟨W.heap.size, 3, none⟩) hq9).trans q3
          have hq2 : W.heap.size < w2.heap.size := by have := hb.size; omega
          obtain ⟨lv, h1, h2, h3⟩ := hj.out
          have h4 := h1.read hb hr
          have hbk := h4.blk (.head _)
          have f2 := hbk.free 2
          have f3 := hbk.free 3
          have f4 := hbk.free 4
          have g2 := hbk.cell 2
          have g4 := hbk.cell 4
          simp only [jcells, List.getElem?_cons_zero, List.getElem?_cons_succ] at f2 f3 f4 g2 g4
          have HD4 := Lib.hid h4
          have HLV := Lib.hid h2
          have HO3 := Lib.hid h3
          clear hb hr h1 h2 h3 h4 hbk hj q3
          dsimp only
          by_cases hgt : jc.gen < g
          · have t2 : decide ((jc.gen : Int) < (g : Int)) = true := by simp; omega
            have t3 : decide (jc.gen < g) = true := by simp; omega
            have HS : Hid (jn = { jc with slot := k, gen := g, last := b }) := Lib.hid (by rw [HUP.out, stepJ, if_pos hgt])
            clear hgt
            go_wp2
            go_roundw
            case rel =>
              refine ⟨k + 1, (1, .slice A2 n2 c2, bytesV b) :: rs', by omega, by go_num, Lib.hid (fun x hx => .tail _ (hsub.out x hx)), Lib.hid ⟨.slice A2 n2 c2, ?_, ?_, ?_⟩, Lib.hid (fun h => by cases h)⟩
              · rw [HUJ.out, HS.out]
                exact ((HD4.out.put 2 (.int .i64 (k : Int))).put 3 (.int .u32 (g : Int))).put 4 (.slice A2 n2 c2)
              · rw [HUJ.out, HS.out]
                exact .head _
              · rw [HUJ.out]
                exact HOK.out
            case measure => simp [intOf]; omega
          · have t2 : decide ((jc.gen : Int) < (g : Int)) = false := by simp; omega
            have t3 : decide (jc.gen < g) = false := by simp; omega
            have HS : Hid (jn = jc) := Lib.hid (by rw [HUP.out, stepJ, if_neg hgt])
            clear hgt
            go_wp2
            go_roundw
            case rel => exact ⟨k + 1, (1, .slice A2 n2 c2, bytesV b) :: rs', by omega, by go_num, Lib.hid (fun x hx => .tail _ (hsub.out x hx)), Lib.hid (by rw [HUJ.out, HS.out]; exact ⟨lv, HD4.out, .tail _ HLV.out, HO3.out⟩), Lib.hid (fun h => by cases h)⟩
            case measure => simp [intOf]; omega
      · obtain rfl : k = 2 := by omega
        have hdf : dn = false := by
          cases dn with
          | true => have := hk0.out rfl; omega
          | false => rfl
        subst hdf
        have HE : Hid (openJ s = (s.flush.1, s.flush.2, foundJ s)) := Lib.hid (by unfold openJ; rw [if_neg (by have := H4.out; omega), if_neg (by rw [HDN.out]; simp)])
        have HJ2 : Hid (JD w0 wr ds d s W.heap.size (foundJ s) bs rs') := Lib.hid (by have := hj.out; rwa [upJ_two] at this)
        clear hj
        obtain ⟨fe, hfe⟩ : ∃ e, s.flush.2 = e := ⟨_, rfl⟩
        have HE2 : Hid (openJ s = (s.flush.1, fe, foundJ s)) := Lib.hid (by rw [HE.out, hfe])
        have HFE := Lib.hid hfe
        clear HE hfe
        go_wp2_with fail
        refine (jd_flush HJ2.out HO.out).mono ?_
        rw [HFE.out]
        rintro en w2 ⟨rfl, h⟩
        have HJ3 := Lib.hid h
        clear h HJ2
        by_cases hfz : fe = 0
        · subst hfz
          go_wp2
          refine bodyPost_ret (v := .tuple #[.pointer (some ⟨W.heap.size, 0, none⟩), .int .i64 0]) (by simp [results, Try.results11, go_sem]) rfl ?_
          rw [HE2.out]
          exact .inr ⟨rfl, _, rs', rfl, hsub.out, HJ3.out⟩
        · have t2 : (fe != 0) = true := by simpa using hfz
          have HZ := Lib.hid hfz
          clear hfz
          go_wp2
          refine bodyPost_ret (v := .tuple #[.pointer none, .int .i64 fe]) (by simp [results, Try.results11, go_sem]) rfl ?_
          rw [HE2.out]
          exact .inl ⟨HZ.out, rfl, HJ3.out.dm.subR hsub.out⟩
end
end Go.Proofs.Ytjddplddpdcmdaa
