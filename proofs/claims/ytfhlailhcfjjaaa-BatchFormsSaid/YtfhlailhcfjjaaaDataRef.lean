/- Contracts of pedagogueref18.in, mayHead, mayExample, MayData, SameData, small, smalls. -/
import Derived.Test.YtfhlailhcfjjaaaDataMay2
import Derived.Test.YtfhlailhcfjjaaaDataSame
import Derived.Test.YtfhlailhcfjjaaaDataDecP
import Derived.Outline
namespace Go.Proofs.Ytfhlailhcfjjaaa
open Go.RowKit
set_option linter.unusedVariables false
set_option linter.unusedSimpArgs false

theorem rin_any (n lo hi : Int) (r : Bool) (hr : inD n lo hi = r) (w : World) : Calls Try.prog 56 #[.int .i64 n, .int .i64 lo, .int .i64 hi] w fun en w' => en = .returned (.bool r) ∧ w = w' := by
  subst hr
  by_cases h0 : lo ≤ n
  · have t0 : decide (lo ≤ n) = true := by simp; omega
    have HT : Hid (inD n lo hi = decide (n ≤ hi)) := Lib.hid (by unfold inD; rw [t0, Bool.true_and])
    go_enter Try.func56, Try.ntmps56
    go_wp2
    go_ret
    exact ⟨by rw [HT.out]; rfl, rfl⟩
  · have t0 : decide (lo ≤ n) = false := by simp; omega
    have HT : Hid (inD n lo hi = false) := Lib.hid (by unfold inD; rw [t0, Bool.false_and])
    go_enter Try.func56, Try.ntmps56
    go_wp2
    go_ret
    exact ⟨by rw [HT.out]; rfl, rfl⟩
theorem rhead_any (a b c ex cl : Int) (A : Option Addr) (m k : Nat) (xs : List ExV) (n : Int) (r : Bool) (hr : headI ⟨a, b, c, ex, cl, .slice A m k, xs⟩ n = r) (w : World) :
    Calls Try.prog 46 #[.agg #[.int .i64 a, .int .i64 b, .int .i64 c, .int .i64 ex, .int .i64 cl, .slice A m k], .int .i64 n] w fun en w' => en = .returned (.bool r) ∧ Below w.heap.size w w' := by
  have hb := Lib.hid (one_alloc w (.cells #[.int .i64 a, .int .i64 b, .int .i64 c, .int .i64 ex, .int .i64 cl, .slice A m k] 33))
  have HR := Lib.hid hr
  obtain ⟨r1, e1⟩ : ∃ r, inD a 1 8 = r := ⟨_, rfl⟩
  obtain ⟨r2, e2⟩ : ∃ r, inD b 1 16 = r := ⟨_, rfl⟩
  obtain ⟨r3, e3⟩ : ∃ r, inD c 1 16 = r := ⟨_, rfl⟩
  obtain ⟨r4, e4⟩ : ∃ r, inD ex (-64) 64 = r := ⟨_, rfl⟩
  obtain ⟨r5, e5⟩ : ∃ r, inD cl 2 10 = r := ⟨_, rfl⟩
  obtain ⟨r6, e6⟩ : ∃ r, inD n 1 64 = r := ⟨_, rfl⟩
  have C1 := Lib.hid (rin_any a 1 8 r1 e1)
  have C2 := Lib.hid (rin_any b 1 16 r2 e2)
  have C3 := Lib.hid (rin_any c 1 16 r3 e3)
  have C4 := Lib.hid (rin_any ex (-64) 64 r4 e4)
  have C5 := Lib.hid (rin_any cl 2 10 r5 e5)
  have C6 := Lib.hid (rin_any n 1 64 r6 e6)
  have HQ : Hid (r = (r1 && (r2 && (r3 && (r4 && (r5 && r6)))))) := Lib.hid (by rw [← HR.out]; unfold headI; simp only [e1, e2, e3, e4, e5, e6])
  clear hr e1 e2 e3 e4 e5 e6
  cases r1 with
  | false =>
    go_enter Try.func46, Try.ntmps46
    go_wp2_with fail
    refine (C1.out _).mono ?_
    rintro en w1 ⟨rfl, rfl⟩
    go_wp2
    go_ret
    exact ⟨by rw [HQ.out]; rfl, hb.out⟩
  | true =>
    cases r2 with
    | false =>
      go_enter Try.func46, Try.ntmps46
      go_wp2_with fail
      refine (C1.out _).mono ?_
      rintro en w1 ⟨rfl, rfl⟩
      go_wp2_with fail
      refine (C2.out _).mono ?_
      rintro en w2 ⟨rfl, rfl⟩
      go_wp2
      go_ret
      exact ⟨by rw [HQ.out]; rfl, hb.out⟩
    | true =>
      cases r3 with
      | false =>
        go_enter Try.func46, Try.ntmps46
        go_wp2_with fail
        refine (C1.out _).mono ?_
        rintro en w1 ⟨rfl, rfl⟩
        go_wp2_with fail
        refine (C2.out _).mono ?_
        rintro en w2 ⟨rfl, rfl⟩
        go_wp2_with fail
        refine (C3.out _).mono ?_
        rintro en w3 ⟨rfl, rfl⟩
        go_wp2
        go_ret
        exact ⟨by rw [HQ.out]; rfl, hb.out⟩
      | true =>
        cases r4 with
        | false =>
          go_enter Try.func46, Try.ntmps46
          go_wp2_with fail
          refine (C1.out _).mono ?_
          rintro en w1 ⟨rfl, rfl⟩
          go_wp2_with fail
          refine (C2.out _).mono ?_
          rintro en w2 ⟨rfl, rfl⟩
          go_wp2_with fail
          refine (C3.out _).mono ?_
          rintro en w3 ⟨rfl, rfl⟩
          go_wp2_with fail
          refine (C4.out _).mono ?_
          rintro en w4 ⟨rfl, rfl⟩
          go_wp2
          go_ret
          exact ⟨by rw [HQ.out]; rfl, hb.out⟩
        | true =>
          cases r5 with
          | false =>
            go_enter Try.func46, Try.ntmps46
            go_wp2_with fail
            refine (C1.out _).mono ?_
            rintro en w1 ⟨rfl, rfl⟩
            go_wp2_with fail
            refine (C2.out _).mono ?_
            rintro en w2 ⟨rfl, rfl⟩
            go_wp2_with fail
            refine (C3.out _).mono ?_
            rintro en w3 ⟨rfl, rfl⟩
            go_wp2_with fail
            refine (C4.out _).mono ?_
            rintro en w4 ⟨rfl, rfl⟩
            go_wp2_with fail
            refine (C5.out _).mono ?_
            rintro en w5 ⟨rfl, rfl⟩
            go_wp2
            go_ret
            exact ⟨by rw [HQ.out]; rfl, hb.out⟩
          | true =>
            go_enter Try.func46, Try.ntmps46
            go_wp2_with fail
            refine (C1.out _).mono ?_
            rintro en w1 ⟨rfl, rfl⟩
            go_wp2_with fail
            refine (C2.out _).mono ?_
            rintro en w2 ⟨rfl, rfl⟩
            go_wp2_with fail
            refine (C3.out _).mono ?_
            rintro en w3 ⟨rfl, rfl⟩
            go_wp2_with fail
            refine (C4.out _).mono ?_
            rintro en w4 ⟨rfl, rfl⟩
            go_wp2_with fail
            refine (C5.out _).mono ?_
            rintro en w5 ⟨rfl, rfl⟩
            go_wp2_with fail
            refine (C6.out _).mono ?_
            rintro en w6 ⟨rfl, rfl⟩
            go_wp2
            go_ret
            exact ⟨by rw [HQ.out]; rfl, hb.out⟩
set_option maxRecDepth 100000 in
set_option maxHeartbeats 1600000 in
theorem rone_any (a b c ex cl : Int) (A : Option Addr) (m k : Nat) (es : List ExV) (Ad : Option Addr) (cd : Nat) (data : List Int) (lab : Int) (w : World) (B : Nat) (hB : B ≤ w.heap.size) (hd : Reads w B (.slice Ad data.length cd) (ints .i8 data)) (hlen : data.length ≤ 140737488351232)
    (h1 : 1 ≤ a * b ∧ a * b ≤ 128) (h2 : 1 ≤ a * b * c ∧ a * b * c ≤ 2048) (hcl : 2 ≤ cl ∧ cl ≤ 10) (r : Bool) (hr : oneI ⟨a, b, c, ex, cl, .slice A m k, es⟩ ⟨.slice Ad data.length cd, data, lab⟩ = r) :
    Calls Try.prog 48 #[.agg #[.int .i64 a, .int .i64 b, .int .i64 c, .int .i64 ex, .int .i64 cl, .slice A m k], .agg #[.slice Ad data.length cd, .int .i64 lab]] w fun en w' => en = .returned (.bool r) ∧ Below w.heap.size w w' := by
  obtain ⟨r3, e3⟩ : ∃ x, inD lab 0 (cl - 1) = x := ⟨_, rfl⟩
  have HI := Lib.hid (rin_any lab 0 (cl - 1) r3 e3)
  have HQ : Hid (r = (((data.length : Int) == a * b * c) && (!data.contains (-128) && r3))) := Lib.hid (by rw [← hr]; unfold oneI sizeD; simp only [e3])
  have hb0 := ((Below.refl w.heap.size w).alloc (Nat.le_refl _) (.cells #[.int .i64 a, .int .i64 b, .int .i64 c, .int .i64 ex, .int .i64 cl, .slice A m k] 33)).alloc (by simp) (.cells #[.slice Ad data.length cd, .int .i64 lab] 45)
  have HB := Lib.hid hb0
  have HD := Lib.hid (hd.below (hb0.mono hB))
  have hk2 := Blk.fresh (w.alloc (.cells #[.int .i64 a, .int .i64 b, .int .i64 c, .int .i64 ex, .int .i64 cl, .slice A m k] 33)) 45 [.slice Ad data.length cd, .int .i64 lab]
  simp only [World.size_alloc] at hk2
  have K2 := Lib.hid hk2
  obtain ⟨g1, g2⟩ := h1
  obtain ⟨g3, g4⟩ := h2
  obtain ⟨g5, g6⟩ := hcl
  clear hb0 hk2 hr e3 hd
  by_cases hs : (data.length : Int) = a * b * c
  · have ts : ((data.length : Int) == a * b * c) = true := by simpa using hs
    have tn : ((data.length : Int) != a * b * c) = false := by simpa using hs
    have HQ2 : Hid (r = (!data.contains (-128) && r3)) := Lib.hid (by rw [HQ.out, ts, Bool.true_and])
    clear hs HQ ts
    cases r3 with
    | false =>
      go_enter Try.func48, Try.ntmps48
      go_wp2_with fail
      refine (HI.out _).mono ?_
      rintro en w1 ⟨rfl, rfl⟩
      go_wp2
      go_ret
      exact ⟨by rw [HQ2.out, Bool.and_false]; rfl, HB.out⟩
    | true =>
      have HQ3 : Hid (r = !data.contains (-128)) := Lib.hid (by rw [HQ2.out, Bool.and_true])
      clear HQ2
      go_enter Try.func48, Try.ntmps48
      go_wp2_with fail
      refine (HI.out _).mono ?_
      rintro en w1 ⟨rfl, rfl⟩
      clear tn
      go_wp2
      generalize ((w.alloc (.cells #[.int .i64 a, .int .i64 b, .int .i64 c, .int .i64 ex, .int .i64 cl, .slice A m k] 33)).alloc (.cells #[.slice Ad data.length cd, .int .i64 lab] 45)) = w2 at HB HD K2 ⊢
      clear HI g1 g2 g3 g4 g5 g6
      obtain ⟨n, hn⟩ : ∃ n, data.length = n := ⟨_, rfl⟩
      rw [hn] at HD K2 hlen ⊢
      have HN := Lib.hid hn
      clear hn
      go_loopw [34] (fun i wr => ∃ k : Nat, k ≤ n ∧ i = .int .i64 k ∧ Hid ((data.take k).contains (-128) = false) ∧ wr = w2) (fun i _ => n - (intOf i).toNat)
      case atStart => exact ⟨0, by omega, rfl, Lib.hid (by simp), rfl⟩
      case round =>
        obtain ⟨k, hk, rfl, htk, rfl⟩ := hrel
        by_cases hlt : k < n
        · obtain ⟨A', n', c', e', _, _, _, hat⟩ := HD.out
          injection e' with e1 e2 e3
          subst e1 e2 e3
          obtain ⟨g, o, rfl, hg, hx⟩ := hat.out (by omega)
          have hl := HN.out
          have c1 := hx k (.int .i8 data[k]) (ints_at _ _ _ (by omega))
          obtain ⟨y, hy⟩ : ∃ y, data[k] = y := ⟨_, rfl⟩
          rw [hy] at c1
          have hye : data[k]? = some y := by rw [List.getElem?_eq_getElem (by omega), hy]
          have HY := Lib.hid hye
          have i1 : (0 : Int) ≤ (k : Int) := by omega
          have i2 : (k : Int) < (n : Int) := by omega
          clear hat hx hl hy hye HD
          by_cases hxy : y = -128
          · subst hxy
            have HR : Hid (r = false) := Lib.hid (by
              rw [HQ3.out]
              have : data.contains (-128) = true := by rw [List.contains_iff_mem]; exact List.mem_of_getElem? HY.out
              rw [this]; rfl)
            go_wp2
            go_ret
            exact ⟨by rw [HR.out]; rfl, HB.out⟩
          · have e2 : (y == -128) = false := by simpa using hxy
            have HXY := Lib.hid hxy
            clear hxy
            go_wp2
            go_roundw
            case rel => exact ⟨k + 1, by omega, by go_num, Lib.hid (by
              rw [List.take_add_one, HY.out]
              simp only [Option.toList_some, List.contains_eq_mem, List.mem_append, List.mem_singleton, decide_eq_false_iff_not]
              rintro (h1 | h1)
              · have := htk.out
                simp only [List.contains_eq_mem, decide_eq_false_iff_not] at this
                exact this h1
              · exact HXY.out h1.symm), trivial⟩
            case measure => simp [intOf]; omega
        · have HR : Hid (r = true) := Lib.hid (by
            rw [HQ3.out]
            have := htk.out
            rw [List.take_of_length_le (by have := HN.out; omega)] at this
            rw [this]; rfl)
          go_wp2
          go_ret
          exact ⟨by rw [HR.out]; rfl, HB.out⟩
  · have ts : ((data.length : Int) == a * b * c) = false := by simpa using hs
    have tn : ((data.length : Int) != a * b * c) = true := by simpa using hs
    have HR : Hid (r = false) := Lib.hid (by rw [HQ.out, ts, Bool.false_and])
    clear hs ts HQ
    go_enter Try.func48, Try.ntmps48
    go_wp2
    go_ret
    exact ⟨by rw [HR.out]; rfl, HB.out⟩
set_option maxRecDepth 100000 in
set_option maxHeartbeats 1600000 in
theorem rmayd_any (v : Value) (d : DatV) (w : World) (B : Nat) (hB : B ≤ w.heap.size) (h : DataOf w B v d) (r : Bool) (hr : mayD d = r) : Calls Try.prog 29 #[v] w fun en w' => en = .returned (.bool r) ∧ Below w.heap.size w w' := by
  obtain ⟨a, b, c, ex, cl, lv, xs⟩ := d
  obtain ⟨rfl, _, hx⟩ := h
  simp only at hx ⊢
  obtain ⟨A, k, rfl⟩ := hx.form
  have hlen := hx.len
  have HX := Lib.hid hx
  obtain ⟨r1, e1⟩ : ∃ x, headI ⟨a, b, c, ex, cl, .slice A xs.length k, xs⟩ xs.length = x := ⟨_, rfl⟩
  have hb0 := one_alloc w (.cells #[.int .i64 a, .int .i64 b, .int .i64 c, .int .i64 ex, .int .i64 cl, .slice A xs.length k] 33)
  have hk0 := Blk.fresh w 33 [.int .i64 a, .int .i64 b, .int .i64 c, .int .i64 ex, .int .i64 cl, .slice A xs.length k]
  have HB := Lib.hid hb0
  have HK := Lib.hid hk0
  have hsz := hk0.lt
  have HH := Lib.hid (rhead_any a b c ex cl A xs.length k xs xs.length r1 e1 (w.alloc (.cells #[.int .i64 a, .int .i64 b, .int .i64 c, .int .i64 ex, .int .i64 cl, .slice A xs.length k] 33)))
  have HR := Lib.hid hr
  have HE := Lib.hid e1
  clear hx hb0 hk0 hr e1
  go_enter Try.func29, Try.ntmps29
  go_wp2_with fail
  generalize (w.alloc (.cells #[.int .i64 a, .int .i64 b, .int .i64 c, .int .i64 ex, .int .i64 cl, .slice A xs.length k] 33)) = w1 at HB HK hsz HH ⊢
  refine HH.out.mono ?_
  rintro en w2 ⟨rfl, hb⟩
  have HB2 := Lib.hid (HB.out.trans (hb.mono (by omega)))
  have HK2 := Lib.hid (HK.out.below hb hsz)
  have k0 := HK2.out.cell 5
  simp only [List.getElem?_cons_zero, List.getElem?_cons_succ] at k0
  clear hb
  cases r1 with
  | false =>
    have HQ : Hid (r = false) := Lib.hid (by rw [← HR.out]; unfold mayD; simp only [HE.out, Bool.false_and])
    go_wp2
    go_ret
    exact ⟨by rw [HQ.out]; rfl, HB2.out⟩
  | true =>
    have HQ : Hid (r = xs.all (oneI ⟨a, b, c, ex, cl, .slice A xs.length k, xs⟩)) := Lib.hid (by
      rw [← HR.out]
      unfold mayD
      simp only [HE.out, Bool.true_and])
    have hz := sizeD_in HE.out
    have hh := headI_of HE.out
    simp only at hz hh
    unfold sizeD at hz
    simp only at hz
    have HZ := Lib.hid hz
    have HH2 := Lib.hid hh.2.2.2.2.1
    clear hz hh HH HB HK HE HR
    go_wp2
    clear k0
    obtain ⟨f, hf⟩ : ∃ f, oneI ⟨a, b, c, ex, cl, .slice A xs.length k, xs⟩ = f := ⟨_, rfl⟩
    rw [hf] at HQ
    have HF := Lib.hid hf
    clear hf
    go_loopw [14] (fun i wr => ∃ j : Nat, j ≤ xs.length ∧ i = .int .i64 j ∧ Hid ((xs.take j).all f = true) ∧ Hid (Below w2.heap.size w2 wr)) (fun i _ => xs.length - (intOf i).toNat)
    case atStart => exact ⟨0, by omega, rfl, Lib.hid (by simp), Lib.hid (Below.refl _ _)⟩
    case round =>
      obtain ⟨j, hj, rfl, htk, hbel⟩ := hrel
      have HBR := Lib.hid (HB2.out.trans (hbel.out.mono HB2.out.size))
      by_cases hlt : j < xs.length
      · obtain ⟨g, o, c', e, e1, hlk, hok, hg, q0, q1⟩ := (HX.out.below (HBR.out.mono hB)).at_ hlt
        injection e1 with e1 _ e3
        subst e1 e3
        obtain ⟨Ad, cd, hdv, _, _⟩ := hok.rd.form
        obtain ⟨dv, data, lab⟩ := e
        simp only at hdv q0 q1
        subst hdv
        rw [length_ints] at q0
        rw [length_ints] at hlk hok
        have hok1 := hok.rd
        simp only at hok1
        have hok2 := hok.len
        simp only at hok2
        have sR := HBR.out.size
        have a1 : g < wr.heap.size := by omega
        have HKR := Lib.hid (HK2.out.below hbel.out HK2.out.lt)
        have lR := HKR.out.lt
        have i1 : (0 : Int) ≤ (j : Int) := by omega
        have i2 : (j : Int) < (xs.length : Int) := by omega
        obtain ⟨bb, hbb⟩ : ∃ x, f ⟨.slice Ad data.length cd, data, lab⟩ = x := ⟨_, rfl⟩
        have hb1 := one_alloc wr (.cells #[.slice Ad data.length cd, .int .i64 lab] 45)
        have HC := Lib.hid (rone_any a b c ex cl _ xs.length k xs Ad cd data lab (wr.alloc (.cells #[.slice Ad data.length cd, .int .i64 lab] 45)) B (by have := hb1.size; omega) (hok1.below (hb1.mono (by omega))) hok2 (by have := HZ.out; omega) (by have := HZ.out; omega) HH2.out bb (by rw [HF.out]; exact hbb))
        have HB1 := Lib.hid (HBR.out.trans (hb1.mono sR))
        have HB1' := Lib.hid (hbel.out.trans (hb1.mono hbel.out.size))
        have HLK := Lib.hid hlk
        have HBB := Lib.hid hbb
        have m0 := HKR.out.cell 0
        have m1 := HKR.out.cell 1
        have m2 := HKR.out.cell 2
        have m3 := HKR.out.cell 3
        have m4 := HKR.out.cell 4
        have m5 := HKR.out.cell 5
        simp only [List.getElem?_cons_zero, List.getElem?_cons_succ] at m0 m1 m2 m3 m4 m5
        clear hok hok1 hb1 hlk hbb
        go_wp2_with fail
        refine HC.out.mono ?_
        clear m0 m1 m2 m3 m4 m5
        rintro en w3 ⟨rfl, hb3⟩
        have HB3 := Lib.hid (HB1.out.trans (hb3.mono HB1.out.size))
        have HB3' := Lib.hid (HB1'.out.trans (hb3.mono HB1'.out.size))
        clear hb3 HC
        cases bb with
        | false =>
          have HR2 : Hid (r = false) := Lib.hid (by
            rw [HQ.out, List.all_eq_false]
            exact ⟨_, List.mem_of_getElem? HLK.out, by rw [HBB.out]; simp⟩)
          go_wp2
          go_ret
          exact ⟨by rw [HR2.out]; rfl, HB3.out⟩
        | true =>
          go_wp2
          go_roundw
          case rel => exact ⟨j + 1, by omega, by go_num, Lib.hid (by
            rw [List.take_add_one, HLK.out, List.all_append, htk.out]
            simp only [Option.toList_some, List.all_cons, List.all_nil, Bool.and_true, Bool.true_and]
            exact HBB.out), HB3'⟩
          case measure => simp [intOf]; omega
      · have HR2 : Hid (r = true) := Lib.hid (by
          rw [HQ.out]
          have := htk.out
          rwa [List.take_of_length_le (by omega)] at this)
        go_wp2
        go_ret
        exact ⟨by rw [HR2.out]; rfl, HBR.out⟩

end Go.Proofs.Ytfhlailhcfjjaaa
