/- The walk of DatasetLong. -/
import Derived.Test.YtfhlailhcfjjaaaDataAwake
import Derived.Test.YtfhlailhcfjjaaaDataLight
namespace Go.Proofs.Ytfhlailhcfjjaaa
open Go.RowKit
set_option linter.unusedVariables false
set_option linter.unusedSimpArgs false

set_option maxRecDepth 100000 in
set_option maxHeartbeats 1600000 in
theorem datasetLong_walk (v0 : Value) (a0 : DatV) (w : World) (o0 : DataOf w w.heap.size v0 a0) :
    Calls Try.prog 6 #[v0] w fun en w' => en = .returned (.bool true) ∧ Below w.heap.size w w' := by
  obtain ⟨a, b, c, ex, cl, lv, xs⟩ := a0
  have h0 := o0
  obtain ⟨rfl, _, hx⟩ := o0
  simp only at hx
  obtain ⟨A, k, rfl⟩ := hx.form
  have hlen := hx.len
  have hb0 := one_alloc w (.cells #[.int .i64 a, .int .i64 b, .int .i64 c, .int .i64 ex, .int .i64 cl, .slice A xs.length k] 33)
  have hk0 := Blk.fresh w 33 [.int .i64 a, .int .i64 b, .int .i64 c, .int .i64 ex, .int .i64 cl, .slice A xs.length k]
  have HB := Lib.hid hb0
  have HK := Lib.hid hk0
  have hd1 := h0.below hb0
  have HD := Lib.hid hd1
  have hl := hk0.lt
  have hs := hb0.size
  have HL := Lib.hid (light_any _ _ (w.alloc (.cells #[.int .i64 a, .int .i64 b, .int .i64 c, .int .i64 ex, .int .i64 cl, .slice A xs.length k] 33)) w.heap.size hs hd1)
  obtain ⟨r, hr⟩ : ∃ r, mayD ⟨a, b, c, ex, cl, .slice A xs.length k, xs⟩ = r := ⟨_, rfl⟩
  have HM := Lib.hid hr
  clear h0 hx hb0 hk0 hd1 hr
  go_enter Try.func6, Try.ntmps6
  go_wp2_with fail
  generalize (w.alloc (.cells #[.int .i64 a, .int .i64 b, .int .i64 c, .int .i64 ex, .int .i64 cl, .slice A xs.length k] 33)) = w1 at HB HK HD hl hs HL ⊢
  refine HL.out.mono ?_
  rintro en w2 ⟨⟨b2, rfl, hb2⟩, hw2⟩
  have HK2 := Lib.hid (HK.out.below hw2 hl)
  have HB2 := Lib.hid (HB.out.trans (hw2.mono hs))
  have s2 := HB2.out.size
  have HD2 := Lib.hid (HD.out.below (hw2.mono hs))
  clear HD HK HB HL hw2
  cases b2 with
  | false =>
    clear hb2
    go_wp2_with (go_at_call 17; refine (awake22_any _).mono ?_; rintro en w' ⟨rfl, hb9⟩)
    go_ret
    exact ⟨rfl, HB2.out.trans (hb9.mono s2)⟩
  | true =>
    have h4 := hb2 rfl
    clear hb2
    have m0 := HK2.out.cell 0
    have m1 := HK2.out.cell 1
    have m2 := HK2.out.cell 2
    have m3 := HK2.out.cell 3
    have m4 := HK2.out.cell 4
    have m5 := HK2.out.cell 5
    simp only [List.getElem?_cons_zero, List.getElem?_cons_succ] at m0 m1 m2 m3 m4 m5
    go_wp2_with fail
    refine (denc_any _ _ w2 w.heap.size s2 HD2.out).mono ?_
    clear m0 m1 m2 m3 m4 m5
    rintro en w3 ⟨hb3, ⟨hm, rfl⟩ | ⟨hm, A1, c1, rfl, hown⟩⟩
    · have HB3 := Lib.hid (HB2.out.trans (hb3.mono s2))
      have s3 := HB3.out.size
      clear hb3 hm
      go_wp2_with (go_at_call 17; refine (awake22_any _).mono ?_; rintro en w' ⟨rfl, hb9⟩)
      go_ret
      exact ⟨rfl, HB3.out.trans (hb9.mono s3)⟩
    · have HB3 := Lib.hid (HB2.out.trans (hb3.mono s2))
      have HK3 := Lib.hid (HK2.out.below hb3 HK2.out.lt)
      have s3 := HB3.out.size
      have m0 := HK3.out.cell 0
      have m1 := HK3.out.cell 1
      have m2 := HK3.out.cell 2
      have m5 := HK3.out.cell 5
      simp only [List.getElem?_cons_zero, List.getElem?_cons_succ] at m0 m1 m2 m5
      have hE := length_encD hm
      have hsz := sizeD_in (mayD_of hm).1
      unfold sizeD at hE hsz
      simp only at hE hsz
      obtain ⟨L, hL⟩ : ∃ L, (encD ⟨a, b, c, ex, cl, .slice A xs.length k, xs⟩).length = L := ⟨_, rfl⟩
      rw [hL] at hE ⊢
      clear hb3 hown HM hm HD2 hL
      obtain ⟨p1, p2, p3, p4⟩ := hsz
      have h41 := h4.1
      clear h4
      have hm1 : (0 : Int) ≤ (xs.length : Int) * (1 + a * b * c) ∧ (xs.length : Int) * (1 + a * b * c) ≤ 100 * 2049 :=
        ⟨Int.mul_nonneg (by omega) (by omega), Int.mul_le_mul (by omega) (by omega) (by omega) (by omega)⟩
      obtain ⟨p5, p6⟩ := hm1
      have t1 : ((L : Int) == 11 + (xs.length : Int) * (1 + a * b * c)) = true := by rw [hE]; simp
      clear hE
      go_wp2_with (go_at_call 17; refine (awake22_any _).mono ?_; rintro en w' ⟨rfl, hb9⟩)
      go_ret
      exact ⟨rfl, HB3.out.trans (hb9.mono s3)⟩
end Go.Proofs.Ytfhlailhcfjjaaa
