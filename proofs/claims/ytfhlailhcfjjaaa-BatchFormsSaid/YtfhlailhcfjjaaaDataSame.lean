/- Contracts of dataset.Same, slices.EqualFunc. -/
import Derived.Test.YtfhlailhcfjjaaaDataMay2
import Derived.Test.YtfhlailhcfjjaaaSlices
namespace Go.Proofs.Ytfhlailhcfjjaaa
open Go.RowKit
set_option linter.unusedVariables false
set_option linter.unusedSimpArgs false

def sameEx (x y : ExV) : Bool := x.label == y.label && x.data == y.data
def sameExs (xs ys : List ExV) : Bool := decide (xs.length = ys.length) && (List.zip xs ys).all (fun p => sameEx p.1 p.2)
def sameD (d c : DatV) : Bool := (((d.a == c.a && d.b == c.b && d.c == c.c) && d.exp == c.exp) && d.cl == c.cl) && sameExs d.xs c.xs
set_option maxHeartbeats 800000 in
theorem samec_any (Ad Ae : Option Addr) (cd ce : Nat) (x y : List Int) (la lb : Int) (w : World) (B : Nat) (hB : B ≤ w.heap.size)
    (hx : Reads w B (.slice Ad x.length cd) (ints .i8 x)) (hy : Reads w B (.slice Ae y.length ce) (ints .i8 y)) (r : Bool) (hr : sameEx ⟨.slice Ad x.length cd, x, la⟩ ⟨.slice Ae y.length ce, y, lb⟩ = r) :
    Calls Try.prog 63 #[.agg #[.slice Ad x.length cd, .int .i64 la], .agg #[.slice Ae y.length ce, .int .i64 lb]] w fun en w' => en = .returned (.bool r) ∧ Below w.heap.size w w' := by
  have hb0 := one_alloc w (.cells #[.slice Ad x.length cd, .int .i64 la] 45)
  have hk0 := Blk.fresh w 45 [.slice Ad x.length cd, .int .i64 la]
  have hk1 := Blk.fresh (w.alloc (.cells #[.slice Ad x.length cd, .int .i64 la] 45)) 45 [.slice Ae y.length ce, .int .i64 lb]
  have hb1 := hb0.alloc hb0.size (.cells #[.slice Ae y.length ce, .int .i64 lb] 45)
  have hk2 := hk0.alloc (.cells #[.slice Ae y.length ce, .int .i64 lb] 45)
  have m0 := hk2.cell 0
  have m1 := hk2.cell 1
  have m2 := hk1.cell 0
  have m3 := hk1.cell 1
  have hs := hb1.size
  have HB := Lib.hid hb1
  have HE := Lib.hid (equal_i8_any x y _ _ ((w.alloc (.cells #[.slice Ad x.length cd, .int .i64 la] 45)).alloc (.cells #[.slice Ae y.length ce, .int .i64 lb] 45)) B B (hx.below (hb1.mono hB)) (hy.below (hb1.mono hB)))
  unfold sameEx at hr
  simp only at hr
  simp only [List.getElem?_cons_zero, List.getElem?_cons_succ] at m0 m1 m2 m3
  have HR := Lib.hid hr
  clear hb0 hb1 hk0 hk1 hk2 hx hy hr
  cases hc : (la == lb) with
  | false =>
    rw [hc, Bool.false_and] at HR
    go_enter Try.func63, Try.ntmps63
    go_wp2_with fail
    go_ret
    exact ⟨by rw [← HR.out]; rfl, HB.out⟩
  | true =>
    rw [hc, Bool.true_and] at HR
    go_enter Try.func63, Try.ntmps63
    go_wp2_with fail
    refine HE.out.mono ?_
    rintro en w3 ⟨rfl, n, rfl⟩
    go_wp2
    go_ret
    exact ⟨by rw [← HR.out]; rfl, ⟨HB.out.os, HB.out.tape, HB.out.output, HB.out.size, HB.out.block⟩⟩
/-- whether two rows of examples are the same up to k -/
def sameUp (xs ys : List ExV) (k : Nat) : Prop := ∀ j x y, j < k → xs[j]? = some x → ys[j]? = some y → sameEx x y = true
theorem sameExs_true {xs ys : List ExV} (hl : xs.length = ys.length) (h : sameUp xs ys xs.length) : sameExs xs ys = true := by
  unfold sameExs
  rw [decide_eq_true hl, Bool.true_and, List.all_eq_true]
  intro p hp
  obtain ⟨k, hk, e⟩ := List.mem_iff_getElem.1 hp
  rw [List.length_zip] at hk
  rw [List.getElem_zip] at e
  subst e
  exact h k _ _ (by omega) (List.getElem?_eq_getElem _) (List.getElem?_eq_getElem _)
theorem sameExs_false {xs ys : List ExV} {k : Nat} {x y : ExV} (hx : xs[k]? = some x) (hy : ys[k]? = some y) (h : sameEx x y = false) : sameExs xs ys = false := by
  cases hs : sameExs xs ys with
  | false => rfl
  | true =>
    unfold sameExs at hs
    simp only [Bool.and_eq_true, decide_eq_true_eq, List.all_eq_true] at hs
    have h1 : (xs.zip ys)[k]? = some (x, y) := by
      rw [List.getElem?_zip_eq_some]
      exact ⟨hx, hy⟩
    have := hs.2 _ (List.mem_of_getElem? h1)
    simp only [h] at this
    cases this
set_option maxHeartbeats 1600000 in
theorem equalf_any (xs ys : List ExV) (v u : Value) (B : Nat) (w : World) (hB : B ≤ w.heap.size) (h : ExsOf w B v xs) (hu : ExsOf w B u ys) :
    Calls Try.prog 62 #[v, u, .func (.func 63) #[] #[]] w fun en w' => en = .returned (.bool (sameExs xs ys)) ∧ Below w.heap.size w w' := by
  obtain ⟨A, c, rfl⟩ := h.form
  obtain ⟨A', c', rfl⟩ := hu.form
  have hlen := h.len
  have hlen' := hu.len
  have HE := Lib.hid h
  have HU := Lib.hid hu
  clear h hu
  by_cases hl : xs.length = ys.length
  · have e1 : ((xs.length : Int) != (ys.length : Int)) = false := by simp; omega
    have HL := Lib.hid hl
    clear hl
    go_enter Try.func62, Try.ntmps62
    go_wp2
    go_loopw [17] (fun i wr => ∃ k : Nat, k ≤ xs.length ∧ i = .int .i64 k ∧ Hid (sameUp xs ys k) ∧ Hid (Below w.heap.size w wr)) (fun i _ => xs.length - (intOf i).toNat)
    case atStart => exact ⟨0, by omega, rfl, Lib.hid (fun j _ _ hj => by omega), Lib.hid (Below.refl _ _)⟩
    case round =>
      obtain ⟨k, hk, rfl, htk, hbel⟩ := hrel
      by_cases hlt : k < xs.length
      · obtain ⟨g, o, c2, x, e2, hlk, hok, hg, q0, q1⟩ := (HE.out.below (hbel.out.mono hB)).at_ hlt
        injection e2 with e2 _ e3
        subst e2 e3
        obtain ⟨g', o', c3, y, e4, hlk', hok', hg', p0, p1⟩ := (HU.out.below (hbel.out.mono hB)).at_ (k := k) (by have := HL.out; omega)
        injection e4 with e4 _ e5
        subst e4 e5
        obtain ⟨Ad, cd, hdv, _, _⟩ := hok.rd.form
        obtain ⟨Ae, ce, hdv', _, _⟩ := hok'.rd.form
        obtain ⟨dv, data, lab⟩ := x
        obtain ⟨dv', data', lab'⟩ := y
        simp only at hdv hdv' q0 q1 p0 p1
        subst hdv hdv'
        rw [length_ints] at q0 p0
        rw [length_ints] at hlk hok hlk' hok'
        have hok1 := hok.rd
        have hok2 := hok'.rd
        have HLK := Lib.hid hlk
        have HLK' := Lib.hid hlk'
        have HO1 := Lib.hid hok1
        have HO2 := Lib.hid hok2
        have hbz := hbel.out.size
        have a1 : g < wr.heap.size := by omega
        have a2 : g' < wr.heap.size := by omega
        have i1 : (0 : Int) ≤ (k : Int) := by omega
        have i2 : (k : Int) < (xs.length : Int) := by omega
        have i3 : (k : Int) < (ys.length : Int) := by have := HL.out; omega
        clear hlk hok hlk' hok' hok1 hok2 e1
        cases hs : sameEx ⟨.slice Ad data.length cd, data, lab⟩ ⟨.slice Ae data'.length ce, data', lab'⟩ with
        | false =>
          have HF := Lib.hid (sameExs_false HLK.out HLK'.out hs)
          go_wp2_with fail
          have hb0 := one_alloc wr (.cells #[.slice Ad data.length cd, .int .i64 lab] 45)
          have hb1 := hb0.alloc hb0.size (.cells #[.slice Ae data'.length ce, .int .i64 lab'] 45)
          refine (samec_any Ad Ae cd ce data data' lab lab' _ B (by have := hb1.size; omega) (HO1.out.below (hb1.mono (by omega))) (HO2.out.below (hb1.mono (by omega))) false hs).mono ?_
          rintro en w3 ⟨rfl, hb3⟩
          have HB3 := Lib.hid (hbel.out.trans ((hb1.trans (hb3.mono hb1.size)).mono hbel.out.size))
          clear hb0 hb1 hb3
          go_wp2
          go_ret
          exact ⟨by rw [HF.out]; rfl, HB3.out⟩
        | true =>
          have HF := Lib.hid hs
          go_wp2_with fail
          have hb0 := one_alloc wr (.cells #[.slice Ad data.length cd, .int .i64 lab] 45)
          have hb1 := hb0.alloc hb0.size (.cells #[.slice Ae data'.length ce, .int .i64 lab'] 45)
          refine (samec_any Ad Ae cd ce data data' lab lab' _ B (by have := hb1.size; omega) (HO1.out.below (hb1.mono (by omega))) (HO2.out.below (hb1.mono (by omega))) true hs).mono ?_
          rintro en w3 ⟨rfl, hb3⟩
          have HB3 := Lib.hid (hbel.out.trans ((hb1.trans (hb3.mono hb1.size)).mono hbel.out.size))
          clear hb0 hb1 hb3
          go_wp2
          go_roundw
          case rel => exact ⟨k + 1, by omega, by go_num, Lib.hid (fun j x y hj hx hy => by
            rcases Nat.lt_or_ge j k with h1 | h1
            · exact htk.out j x y h1 hx hy
            · obtain rfl : j = k := by omega
              rw [HLK.out] at hx
              rw [HLK'.out] at hy
              injection hx with hx
              injection hy with hy
              subst hx hy
              exact HF.out), HB3⟩
          case measure => simp [intOf]; omega
      · have HF := Lib.hid (sameExs_true HL.out (by have := htk.out; rwa [show k = xs.length by omega] at this))
        go_wp2
        go_ret
        exact ⟨by rw [HF.out]; rfl, hbel.out⟩
  · have e1 : ((xs.length : Int) != (ys.length : Int)) = true := by simp; omega
    have e2 : sameExs xs ys = false := by unfold sameExs; rw [decide_eq_false hl, Bool.false_and]
    go_enter Try.func62, Try.ntmps62
    go_wp2
    go_ret
    exact ⟨by rw [e2]; rfl, Below.refl _ _⟩
theorem eqIn0 (d : Nat) (a b c a' b' c' : Int) (w : World) : (Op.equalIn (d + 2) 30 (.agg #[.int .i64 a, .int .i64 b, .int .i64 c]) (.agg #[.int .i64 a', .int .i64 b', .int .i64 c'])).run Try.prog w = .ok (a == a' && b == b' && c == c') w := by
  have hu := Try.underlying30
  have u3 := Try.underlying3
  have ag3 := Try.isAgg3
  have z3 := Try.sizeOf3
  rw [Op.equalIn]
  simp only [Sem.run_bind, run_underlying hu, Result.andThen_ok, Std.Legacy.Range.forIn_eq_forIn_range', Std.Legacy.Range.size]
  simp only [show (3 - 0 + 1 - 1) / 1 = 3 from rfl, List.range', List.forIn_cons, List.forIn_nil]
  go_simp
  by_cases h1 : a = a' <;> by_cases h2 : b = b' <;> by_cases h3 : c = c' <;> simp [h1, h2, h3]
theorem eqIn (a b c a' b' c' : Int) (w : World) : (binOp .eql 30 (.agg #[.int .i64 a, .int .i64 b, .int .i64 c]) (.agg #[.int .i64 a', .int .i64 b', .int .i64 c'])).run Try.prog w = .ok (.bool (a == a' && b == b' && c == c')) w := by
  rw [run_eql_struct, show (10000 : Nat) = 9998 + 2 from rfl, eqIn0]
  rfl
set_option maxHeartbeats 1600000 in
theorem dsame_any (v u : Value) (d c : DatV) (w : World) (B : Nat) (hB : B ≤ w.heap.size) (h : DataOf w B v d) (hu : DataOf w B u c) :
    Calls Try.prog 30 #[v, u] w fun en w' => en = .returned (.bool (sameD d c)) ∧ Below w.heap.size w w' := by
  obtain ⟨a1, a2, a3, ex, cl, lv, xs⟩ := d
  obtain ⟨b1, b2, b3, ey, cm, lu, ys⟩ := c
  obtain ⟨rfl, _, hx⟩ := h
  obtain ⟨rfl, _, hy⟩ := hu
  simp only at hx hy ⊢
  obtain ⟨A, k, rfl⟩ := hx.form
  obtain ⟨A', k', rfl⟩ := hy.form
  have hb0 := one_alloc w (.cells #[.int .i64 a1, .int .i64 a2, .int .i64 a3, .int .i64 ex, .int .i64 cl, .slice A xs.length k] 33)
  have hk0 := Blk.fresh w 33 [.int .i64 a1, .int .i64 a2, .int .i64 a3, .int .i64 ex, .int .i64 cl, .slice A xs.length k]
  have hk1 := Blk.fresh (w.alloc (.cells #[.int .i64 a1, .int .i64 a2, .int .i64 a3, .int .i64 ex, .int .i64 cl, .slice A xs.length k] 33)) 33 [.int .i64 b1, .int .i64 b2, .int .i64 b3, .int .i64 ey, .int .i64 cm, .slice A' ys.length k']
  have hb1 := hb0.alloc hb0.size (.cells #[.int .i64 b1, .int .i64 b2, .int .i64 b3, .int .i64 ey, .int .i64 cm, .slice A' ys.length k'] 33)
  have hk2 := hk0.alloc (.cells #[.int .i64 b1, .int .i64 b2, .int .i64 b3, .int .i64 ey, .int .i64 cm, .slice A' ys.length k'] 33)
  have m0 := hk2.cell 0
  have m1 := hk2.cell 1
  have m2 := hk2.cell 2
  have m3 := hk2.cell 3
  have m4 := hk2.cell 4
  have m5 := hk2.cell 5
  have n0 := hk1.cell 0
  have n1 := hk1.cell 1
  have n2 := hk1.cell 2
  have n3 := hk1.cell 3
  have n4 := hk1.cell 4
  have n5 := hk1.cell 5
  have hs := hb1.size
  simp only [List.getElem?_cons_zero, List.getElem?_cons_succ] at m0 m1 m2 m3 m4 m5 n0 n1 n2 n3 n4 n5
  have HB := Lib.hid hb1
  have HE := Lib.hid (equalf_any xs ys (.slice A xs.length k) (.slice A' ys.length k') B ((w.alloc (.cells #[.int .i64 a1, .int .i64 a2, .int .i64 a3, .int .i64 ex, .int .i64 cl, .slice A xs.length k] 33)).alloc (.cells #[.int .i64 b1, .int .i64 b2, .int .i64 b3, .int .i64 ey, .int .i64 cm, .slice A' ys.length k'] 33)) (by omega) (hx.below (hb1.mono hB)) (hy.below (hb1.mono hB)))
  have qA := eqIn a1 a2 a3 b1 b2 b3
  clear hb0 hb1 hk0 hk1 hk2 hx hy
  unfold sameD
  simp only
  cases c1 : (a1 == b1 && a2 == b2 && a3 == b3) with
  | false =>
    rw [c1] at qA
    go_enter Try.func30, Try.ntmps30
    go_wp2_with fail
    go_ret
    exact ⟨rfl, HB.out⟩
  | true =>
    rw [c1] at qA
    cases c2 : (ex == ey) with
    | false =>
      go_enter Try.func30, Try.ntmps30
      go_wp2_with fail
      go_ret
      exact ⟨rfl, HB.out⟩
    | true =>
      cases c3 : (cl == cm) with
      | false =>
        go_enter Try.func30, Try.ntmps30
        go_wp2_with fail
        go_ret
        exact ⟨rfl, HB.out⟩
      | true =>
        go_enter Try.func30, Try.ntmps30
        go_wp2_with fail
        refine HE.out.mono ?_
        rintro en w3 ⟨rfl, hb3⟩
        have HB3 := Lib.hid (HB.out.trans (hb3.mono hs))
        clear hb3
        go_wp2
        go_ret
        exact ⟨rfl, HB3.out⟩
end Go.Proofs.Ytfhlailhcfjjaaa
