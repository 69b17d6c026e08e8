/- Contract of the reference's SameT. -/
import Derived.Test.YtcjpibdgnjncmaaTensor
import Derived.Test.YtcjpibdgnjncmaaSame
namespace Go.Proofs.Ytcjpibdgnjncmaa
open Go.RowKit
set_option linter.unusedVariables false
set_option linter.unusedSimpArgs false

/-- two tensors alike -/
def sameB (d : List Int) (e : Int) (x : List Int) (d' : List Int) (e' : Int) (x' : List Int) : Bool := (d == d') && ((e == e') && (x == x'))
theorem two_alloc (w : World) (o o' : Obj) : Below w.heap.size w ((w.alloc o).alloc o') := ((Below.refl _ _).alloc (Nat.le_refl _) _).alloc (by simp) _

set_option maxHeartbeats 1600000 in
set_option maxRecDepth 100000 in
theorem samet_any (d : List Int) (e : Int) (x : List Int) (d' : List Int) (e' : Int) (x' : List Int) (dv xv dv' xv' : Value) (w : World) (B : Nat) (hB : B ≤ w.heap.size) (h : IsT w B dv xv d e x) (h' : IsT w B dv' xv' d' e' x') :
    Calls Try.prog 45 #[.agg #[dv, .int .i64 e, xv], .agg #[dv', .int .i64 e', xv']] w fun en w' => en = .returned (.bool (sameB d e x d' e' x')) ∧ Below w.heap.size w w' := by
  have hb0 := two_alloc w (.cells #[dv, .int .i64 e, xv] 40) (.cells #[dv', .int .i64 e', xv'] 40)
  have HB := Lib.hid hb0
  have HI := Lib.hid (h.below (hb0.mono hB))
  have HJ := Lib.hid (h'.below (hb0.mono hB))
  obtain ⟨A, c, rfl, _, _⟩ := h.d.form
  obtain ⟨A1, c1, rfl, _, hm⟩ := h.x.form
  obtain ⟨A', c', rfl, _, _⟩ := h'.d.form
  obtain ⟨A1', c1', rfl, _, _⟩ := h'.x.form
  simp only [length_ints] at *
  have hxm : x.length ≤ 9223372036854775807 := by unfold maxLen at hm; omega
  clear hb0 h h' hm
  unfold sameB
  generalize hdd : (d == d') = bd
  have HDD := Lib.hid hdd
  clear hdd
  cases bd with
  | false =>
    go_enter Try.func45, Try.ntmps45
    go_wp2_with (go_at_call 67; refine (sameints_any d d' _ _ _ _ _ HI.out.d HJ.out.d).mono ?_; rw [HDD.out]; rintro en w' ⟨rfl, m, rfl⟩)
    go_ret
    exact ⟨rfl, below_drewN HB.out _⟩
  | true =>
    by_cases he : e = e'
    · subst he
      have t1 : (e == e) = true := by simp
      have t1' : (e != e) = false := by simp
      rw [t1]
      by_cases hl : x.length = x'.length
      · have t2 : ((x.length : Int) != (x'.length : Int)) = false := by simp; omega
        have HL := Lib.hid hl
        clear hl
        go_enter Try.func45, Try.ntmps45
        go_wp2_with (go_at_call 67; refine (sameints_any d d' _ _ _ _ _ HI.out.d HJ.out.d).mono ?_; rw [HDD.out]; rintro en w' ⟨rfl, m, rfl⟩)
        have r2 : ((w.alloc (.cells #[.slice A d.length c, .int .i64 e, .slice A1 x.length c1] 40)).alloc (.cells #[.slice A' d'.length c', .int .i64 e, .slice A1' x'.length c1'] 40)).cell? ⟨w.heap.size, 2, none⟩ = some (.slice A1 x.length c1) := ((Blk.fresh w 40 [.slice A d.length c, .int .i64 e, .slice A1 x.length c1]).alloc _).cell 2
        have s2 : ((w.alloc (.cells #[.slice A d.length c, .int .i64 e, .slice A1 x.length c1] 40)).alloc (.cells #[.slice A' d'.length c', .int .i64 e, .slice A1' x'.length c1'] 40)).cell? ⟨w.heap.size + 1, 2, none⟩ = some (.slice A1' x'.length c1') := by
          have := (Blk.fresh (w.alloc (.cells #[.slice A d.length c, .int .i64 e, .slice A1 x.length c1] 40)) 40 [.slice A' d'.length c', .int .i64 e, .slice A1' x'.length c1']).cell 2
          rw [World.size_alloc] at this
          exact this
        generalize ((w.alloc (.cells #[.slice A d.length c, .int .i64 e, .slice A1 x.length c1] 40)).alloc (.cells #[.slice A' d'.length c', .int .i64 e, .slice A1' x'.length c1'] 40)) = wA at r2 s2 HB HI HJ ⊢
        go_loopw [31] (fun i wr => ∃ k : Nat, k ≤ x.length ∧ i = .int .i64 k ∧ x.take k = x'.take k ∧ ∃ m, wr = wA.drewN m) (fun i _ => x.length - (intOf i).toNat)
        case atStart => exact ⟨0, by omega, rfl, by simp, m, rfl⟩
        case round =>
          obtain ⟨k, hk, rfl, htk, m', rfl⟩ := hrel
          by_cases hlt : k < x.length
          · have hl := HL.out
            obtain ⟨AA, n, cc, hva, hn, hcc, hmm, ha⟩ := HI.out.x
            injection hva with q1 q2 q3
            subst q1 q2 q3
            obtain ⟨AA', n', cc', hva', hn', hcc', hmm', ha'⟩ := HJ.out.x
            injection hva' with q1 q2 q3
            subst q1 q2 q3
            obtain ⟨g, o, rfl, hg, hx⟩ := ha.out (by omega)
            obtain ⟨g', o', rfl, hg', hy⟩ := ha'.out (by omega)
            have z1 := hx k (.int .i8 x[k]) (ints_at _ _ _ (by omega))
            have z2 := hy k (.int .i8 x'[k]) (ints_at _ _ _ (by omega))
            obtain ⟨u, hx0⟩ : ∃ u, x[k] = u := ⟨_, rfl⟩
            obtain ⟨v, hy0⟩ : ∃ v, x'[k] = v := ⟨_, rfl⟩
            rw [hx0] at z1
            rw [hy0] at z2
            have hxe : x[k]? = some u := by rw [List.getElem?_eq_getElem (by omega), hx0]
            have hye : x'[k]? = some v := by rw [List.getElem?_eq_getElem (by omega), hy0]
            have HX := Lib.hid hxe
            have HY := Lib.hid hye
            have HT := Lib.hid htk
            have i1 : (0 : Int) ≤ (k : Int) := by omega
            have i2 : (k : Int) < (x.length : Int) := by omega
            have i3 : (k : Int) < (x'.length : Int) := by omega
            clear ha ha' hx hy hl hx0 hy0 hxe hye htk hn hn' hcc hcc' hmm hmm' hg hg'
            by_cases huv : u = v
            · have e2 : (u != v) = false := by simpa using huv
              have HXY := Lib.hid huv
              clear huv
              go_wp2
              go_quiet (fail)
              go_wp2
              go_roundw
              case rel => exact ⟨k + 1, by omega, by go_num, take_ext HT.out (by rw [HX.out, HY.out, HXY.out]), _, rfl⟩
              case measure => simp [intOf]; omega
            · have e2 : (u != v) = true := by simpa using huv
              have hq : (x == x') = false := by
                rw [beq_eq_false_iff_ne]
                rintro rfl
                have := HX.out.symm.trans HY.out
                injection this with this
                exact huv this
              have HQ := Lib.hid hq
              clear huv hq
              go_wp2
              go_quiet (fail)
              go_wp2
              go_ret
              rw [HQ.out]
              exact ⟨rfl, below_drewN (below_drewN HB.out _) _⟩
          · have hq : (x == x') = true := by
              rw [beq_iff_eq]
              rw [List.take_of_length_le (by omega), List.take_of_length_le (by have := HL.out; omega)] at htk
              exact htk
            have HQ := Lib.hid hq
            clear hq htk
            go_wp2
            go_ret
            rw [HQ.out]
            exact ⟨rfl, below_drewN HB.out _⟩
      · have t2 : ((x.length : Int) != (x'.length : Int)) = true := by simp; omega
        have hq : (x == x') = false := by
          rw [beq_eq_false_iff_ne]
          rintro rfl
          exact hl rfl
        rw [hq]
        clear hq hl
        go_enter Try.func45, Try.ntmps45
        go_wp2_with (go_at_call 67; refine (sameints_any d d' _ _ _ _ _ HI.out.d HJ.out.d).mono ?_; rw [HDD.out]; rintro en w' ⟨rfl, m, rfl⟩)
        go_ret
        exact ⟨rfl, below_drewN HB.out _⟩
    · have t1 : (e == e') = false := by simpa using he
      have t1' : (e != e') = true := by simpa using he
      rw [t1]
      clear he
      go_enter Try.func45, Try.ntmps45
      go_wp2_with (go_at_call 67; refine (sameints_any d d' _ _ _ _ _ HI.out.d HJ.out.d).mono ?_; rw [HDD.out]; rintro en w' ⟨rfl, m, rfl⟩)
      go_ret
      exact ⟨rfl, below_drewN HB.out _⟩
end Go.Proofs.Ytcjpibdgnjncmaa
