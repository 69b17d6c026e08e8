/- Contracts of dataset.May, slices.ContainsFunc. -/
import Derived.Test.YtfhlailhcfjjaaaDataMay
namespace Go.Proofs.Ytfhlailhcfjjaaa
open Go.RowKit
set_option linter.unusedVariables false
set_option linter.unusedSimpArgs false

set_option maxHeartbeats 800000 in
theorem mayc_any (a b c ex cl : Int) (A : Option Addr) (m k : Nat) (es : List ExV) (Ad : Option Addr) (cd : Nat) (data : List Int) (lab : Int) (q : Nat) (w : World) (B : Nat) (hB : B ≤ w.heap.size) (hq : q < w.heap.size) (hk : Blk w q 33 [.int .i64 a, .int .i64 b, .int .i64 c, .int .i64 ex, .int .i64 cl, .slice A m k])
    (hd : Reads w B (.slice Ad data.length cd) (ints .i8 data)) (hlen : data.length ≤ 140737488351232) (h1 : 1 ≤ a * b ∧ a * b ≤ 128) (h2 : 1 ≤ a * b * c ∧ a * b * c ≤ 2048) (hcl : 2 ≤ cl ∧ cl ≤ 10) (r : Bool) (hr : oneI ⟨a, b, c, ex, cl, .slice A m k, es⟩ ⟨.slice Ad data.length cd, data, lab⟩ = r) :
    Calls Try.prog 61 #[.agg #[.slice Ad data.length cd, .int .i64 lab], .pointer (some ⟨q, 0, none⟩)] w fun en w' => en = .returned (.bool (!r)) ∧ Below w.heap.size w w' := by
  have hb0 := one_alloc w (.cells #[.slice Ad data.length cd, .int .i64 lab] 45)
  have HB := Lib.hid hb0
  have HC := Lib.hid (done_any a b c ex cl A m k es Ad cd data lab (w.alloc (.cells #[.slice Ad data.length cd, .int .i64 lab] 45)) B (by have := hb0.size; omega) (hd.below (hb0.mono hB)) hlen h1 h2 hcl r hr)
  have hk2 := hk.alloc (.cells #[.slice Ad data.length cd, .int .i64 lab] 45)
  have m0 := hk2.cell 0
  have m1 := hk2.cell 1
  have m2 := hk2.cell 2
  have m3 := hk2.cell 3
  have m4 := hk2.cell 4
  have m5 := hk2.cell 5
  have hs := hb0.size
  simp only [List.getElem?_cons_zero, List.getElem?_cons_succ] at m0 m1 m2 m3 m4 m5
  clear hb0 hd h1 h2 hcl hr hk2 hk
  go_enter Try.func61, Try.ntmps61
  go_wp2_with fail
  refine HC.out.mono ?_
  rintro en w3 ⟨rfl, hb⟩
  have HB3 := Lib.hid (HB.out.trans (hb.mono hs))
  clear hb
  go_wp2
  go_ret
  exact ⟨rfl, HB3.out⟩
/-- what a test by a function finds -/
theorem dindexf_any (xs : List ExV) (v : Value) (B : Nat) (f : ExV → Bool) (q : Nat) (w : World) (hB : B ≤ w.heap.size) (h : ExsOf w B v xs)
    (hf : ∀ e ∈ xs, ∀ W, Below w.heap.size w W → Calls Try.prog 61 #[.agg #[e.dv, .int .i64 e.label], .pointer (some ⟨q, 0, none⟩)] W fun en w' => en = .returned (.bool (f e)) ∧ Below W.heap.size W w') (r : Bool) (hr : xs.any f = r) :
    Calls Try.prog 78 #[v, .func (.func 61) #[] #[.pointer (some ⟨q, 0, none⟩)]] w fun en w' => (∃ i : Int, en = .returned (.int .i64 i) ∧ decide (0 ≤ i) = r) ∧ Below w.heap.size w w' := by
  obtain ⟨A, c, rfl⟩ := h.form
  have hlen := h.len
  have HE := Lib.hid h
  have HF := Lib.hid hf
  have HR := Lib.hid hr
  clear h hf hr
  go_enter Try.func78, Try.ntmps78
  go_wp2
  go_loopw [8] (fun i wr => ∃ k : Nat, k ≤ xs.length ∧ i = .int .i64 k ∧ Hid ((xs.take k).any f = false) ∧ Hid (Below w.heap.size w wr)) (fun i _ => xs.length - (intOf i).toNat)
  case atStart => exact ⟨0, by omega, rfl, Lib.hid (by simp), Lib.hid (Below.refl _ _)⟩
  case round =>
    obtain ⟨k, hk, rfl, htk, hbel⟩ := hrel
    by_cases hlt : k < xs.length
    · obtain ⟨g, o, c', e, e1, hlk, hok, hg, q0, q1⟩ := (HE.out.below (hbel.out.mono hB)).at_ hlt
      injection e1 with e1 _ e3
      subst e1 e3
      obtain ⟨Ad, cd, hdv, _, _⟩ := hok.rd.form
      obtain ⟨dv, data, lab⟩ := e
      simp only at hdv q0 q1
      subst hdv
      rw [length_ints] at q0
      rw [length_ints] at hlk hok
      obtain ⟨b, hb⟩ : ∃ b, f ⟨.slice Ad data.length cd, data, lab⟩ = b := ⟨_, rfl⟩
      have HC := HF.out _ (List.mem_of_getElem? hlk) wr hbel.out
      rw [hb] at HC
      have HCC := Lib.hid HC
      have HLK := Lib.hid hlk
      have HBB := Lib.hid hb
      have i1 : (0 : Int) ≤ (k : Int) := by omega
      have i2 : (k : Int) < (xs.length : Int) := by omega
      clear HC hlk hok hb
      go_wp2_with fail
      refine HCC.out.mono ?_
      rintro en w3 ⟨rfl, hb3⟩
      have HB3 := Lib.hid (hbel.out.trans (hb3.mono hbel.out.size))
      clear hb3
      cases b with
      | true =>
        have HQ : Hid (r = true) := Lib.hid (by
          rw [← HR.out, List.any_eq_true]
          exact ⟨_, List.mem_of_getElem? HLK.out, HBB.out⟩)
        go_wp2
        go_ret
        exact ⟨⟨k, rfl, by rw [HQ.out]; simp⟩, HB3.out⟩
      | false =>
        go_wp2
        go_roundw
        case rel => exact ⟨k + 1, by omega, by go_num, Lib.hid (by
          rw [List.take_add_one, HLK.out, List.any_append, htk.out]
          simp only [Option.toList_some, List.any_cons, List.any_nil, Bool.or_false, Bool.false_or]
          exact HBB.out), HB3⟩
        case measure => simp [intOf]; omega
    · have HQ : Hid (r = false) := Lib.hid (by
        rw [← HR.out]
        have := htk.out
        rwa [List.take_of_length_le (by omega)] at this)
      go_wp2
      go_ret
      exact ⟨⟨-1, rfl, by rw [HQ.out]; rfl⟩, hbel.out⟩
theorem dcontainsf_any (xs : List ExV) (v : Value) (B : Nat) (f : ExV → Bool) (q : Nat) (w : World) (hB : B ≤ w.heap.size) (h : ExsOf w B v xs)
    (hf : ∀ e ∈ xs, ∀ W, Below w.heap.size w W → Calls Try.prog 61 #[.agg #[e.dv, .int .i64 e.label], .pointer (some ⟨q, 0, none⟩)] W fun en w' => en = .returned (.bool (f e)) ∧ Below W.heap.size W w') (r : Bool) (hr : xs.any f = r) :
    Calls Try.prog 60 #[v, .func (.func 61) #[] #[.pointer (some ⟨q, 0, none⟩)]] w fun en w' => en = .returned (.bool r) ∧ Below w.heap.size w w' := by
  have HC := Lib.hid (dindexf_any xs v B f q w hB h hf r hr)
  obtain ⟨A, c, rfl⟩ := h.form
  clear h hf hr
  go_enter Try.func60, Try.ntmps60
  go_wp2_with fail
  refine HC.out.mono ?_
  rintro en w' ⟨⟨i, rfl, hi⟩, hb⟩
  have HI := Lib.hid hi
  have HB := Lib.hid hb
  clear hi hb
  go_wp2
  go_ret
  exact ⟨by rw [← HI.out]; rfl, HB.out⟩
set_option maxHeartbeats 800000 in
theorem dmay_any (v : Value) (d : DatV) (w : World) (B : Nat) (hB : B ≤ w.heap.size) (h : DataOf w B v d) (r : Bool) (hr : mayD d = r) : Calls Try.prog 28 #[v] w fun en w' => en = .returned (.bool r) ∧ Below w.heap.size w w' := by
  obtain ⟨a, b, c, ex, cl, lv, xs⟩ := d
  obtain ⟨rfl, _, hx⟩ := h
  simp only at hx ⊢
  obtain ⟨A, k, rfl⟩ := hx.form
  have hlen := hx.len
  have HX := Lib.hid hx
  obtain ⟨r1, e1⟩ : ∃ x, headI ⟨a, b, c, ex, cl, .slice A xs.length k, xs⟩ xs.length = x := ⟨_, rfl⟩
  have hb0 := one_alloc w (.cells #[.int .i64 a, .int .i64 b, .int .i64 c, .int .i64 ex, .int .i64 cl, .slice A xs.length k] 33)
  have hk0 := Blk.fresh w 33 [.int .i64 a, .int .i64 b, .int .i64 c, .int .i64 ex, .int .i64 cl, .slice A xs.length k]
  have HB := Lib.hid hb0
  have HK := Lib.hid hk0
  have hsz := hk0.lt
  have HH := Lib.hid (dhead_any a b c ex cl A xs.length k xs xs.length r1 e1 (w.alloc (.cells #[.int .i64 a, .int .i64 b, .int .i64 c, .int .i64 ex, .int .i64 cl, .slice A xs.length k] 33)))
  have HR := Lib.hid hr
  have HE := Lib.hid e1
  clear hx hb0 hk0 hr e1
  go_enter Try.func28, Try.ntmps28
  go_wp2_with fail
  generalize (w.alloc (.cells #[.int .i64 a, .int .i64 b, .int .i64 c, .int .i64 ex, .int .i64 cl, .slice A xs.length k] 33)) = w1 at HB HK hsz HH ⊢
  refine HH.out.mono ?_
  rintro en w2 ⟨rfl, hb⟩
  have HB2 := Lib.hid (HB.out.trans (hb.mono (by omega)))
  have HK2 := Lib.hid (HK.out.below hb hsz)
  have k0 := HK2.out.cell 5
  simp only [List.getElem?_cons_zero, List.getElem?_cons_succ] at k0
  clear hb
  cases r1 with
  | false =>
    have HQ : Hid (r = false) := Lib.hid (by rw [← HR.out]; unfold mayD; simp only [HE.out, Bool.false_and])
    go_wp2
    go_ret
    exact ⟨by rw [HQ.out]; rfl, HB2.out⟩
  | true =>
    obtain ⟨r2, e2⟩ : ∃ x, xs.any (fun e => !oneI ⟨a, b, c, ex, cl, .slice A xs.length k, xs⟩ e) = x := ⟨_, rfl⟩
    have HQ : Hid (r = !r2) := Lib.hid (by
      rw [← HR.out, ← e2]
      unfold mayD
      simp only [HE.out, Bool.true_and]
      rw [List.not_any_eq_all_not]
      simp)
    have hz := sizeD_in HE.out
    have hh := headI_of HE.out
    simp only at hz hh
    unfold sizeD at hz
    simp only at hz
    have HC := Lib.hid (dcontainsf_any xs (.slice A xs.length k) B (fun e => !oneI ⟨a, b, c, ex, cl, .slice A xs.length k, xs⟩ e) w.heap.size w2 (by have := HB2.out.size; omega) (HX.out.below (HB2.out.mono hB)) (fun e he W hW => by
      obtain ⟨Ad, cd, hdv, _, _⟩ := (HX.out.ok.out e he).rd.form
      obtain ⟨dv, data, lab⟩ := e
      simp only at hdv
      subst hdv
      have hok := HX.out.ok.out _ he
      simp only [length_ints] at hok ⊢
      have hbW := HB2.out.trans (hW.mono HB2.out.size)
      exact mayc_any a b c ex cl A xs.length k xs Ad cd data lab w.heap.size W B (by have := hbW.size; omega) (by have := hW.size; have := HK2.out.lt; omega) (HK2.out.below hW HK2.out.lt) (hok.rd.below (hbW.mono hB)) hok.len (by omega) (by omega) (by omega) _ rfl) r2 e2)
    clear e2 hz hh
    go_wp2_with fail
    refine HC.out.mono ?_
    rintro en w3 ⟨rfl, hb⟩
    have HB3 := Lib.hid (HB2.out.trans (hb.mono HB2.out.size))
    clear hb
    go_wp2
    go_ret
    exact ⟨by rw [HQ.out]; rfl, HB3.out⟩
end Go.Proofs.Ytfhlailhcfjjaaa
