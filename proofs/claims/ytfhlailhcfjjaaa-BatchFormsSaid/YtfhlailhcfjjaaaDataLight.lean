/- Contract of pedagoguelaw22.light. -/
import Derived.Test.YtfhlailhcfjjaaaDataMay2
import Derived.Deep.DeepCutAuto
namespace Go.Proofs.Ytfhlailhcfjjaaa
open Go.RowKit
set_option linter.unusedVariables false
set_option linter.unusedSimpArgs false

def sumLen (xs : List ExV) : Nat := (xs.map (fun e => e.data.length)).sum
theorem sumLen_step {xs : List ExV} {k : Nat} {x : ExV} (h : xs[k]? = some x) : sumLen (xs.take (k + 1)) = sumLen (xs.take k) + x.data.length := by
  unfold sumLen
  rw [List.take_add_one, h]
  simp
/-- what light tells -/
def LightOf (w : World) (xs : List ExV) (en : Ending) (w' : World) : Prop := (∃ b, en = .returned (.bool b) ∧ (b = true → xs.length ≤ 100 ∧ sumLen xs ≤ 3000)) ∧ Below w.heap.size w w'
theorem LightOf.no {w w' : World} {xs : List ExV} (hb : Below w.heap.size w w') : LightOf w xs (.returned (.bool false)) w' := ⟨⟨false, rfl, fun h => by cases h⟩, hb⟩
theorem LightOf.yes {w w' : World} {xs : List ExV} (h : xs.length ≤ 100 ∧ sumLen xs ≤ 3000) (hb : Below w.heap.size w w') : LightOf w xs (.returned (.bool true)) w' := ⟨⟨true, rfl, fun _ => h⟩, hb⟩
set_option maxRecDepth 100000 in
set_option maxHeartbeats 1600000 in
theorem light_any (v : Value) (d : DatV) (w : World) (B : Nat) (hB : B ≤ w.heap.size) (h : DataOf w B v d) :
    Calls Try.prog 16 #[v] w (LightOf w d.xs) := by
  obtain ⟨a, b, c, ex, cl, lv, xs⟩ := d
  obtain ⟨rfl, _, hx⟩ := h
  simp only at hx ⊢
  obtain ⟨A, k0, rfl⟩ := hx.form
  have hlen := hx.len
  have HX := Lib.hid hx
  have hb0 := one_alloc w (.cells #[.int .i64 a, .int .i64 b, .int .i64 c, .int .i64 ex, .int .i64 cl, .slice A xs.length k0] 33)
  have hk0 := Blk.fresh w 33 [.int .i64 a, .int .i64 b, .int .i64 c, .int .i64 ex, .int .i64 cl, .slice A xs.length k0]
  have m5 := hk0.cell 5
  simp only [List.getElem?_cons_zero, List.getElem?_cons_succ] at m5
  have HB := Lib.hid hb0
  have hl := hk0.lt
  clear hx hb0 hk0
  go_enter Try.func16, Try.ntmps16
  go_wp2_with fail
  generalize (w.alloc (.cells #[.int .i64 a, .int .i64 b, .int .i64 c, .int .i64 ex, .int .i64 cl, .slice A xs.length k0] 33)) = w1 at HB hl m5 ⊢
  clear m5
  go_loopw [3, 9] (fun n i wr => ∃ k : Nat, k ≤ xs.length ∧ k ≤ 100 ∧ i = .int .i64 k ∧ n = .int .i64 (sumLen (xs.take k)) ∧ Hid (sumLen (xs.take k) ≤ 3000) ∧ Hid (Below w.heap.size w wr)) (fun _ i _ => xs.length - (intOf i).toNat)
  case atStart => exact ⟨0, by omega, by omega, rfl, rfl, Lib.hid (by simp [sumLen]), HB⟩
  case round =>
    obtain ⟨k, hk, hk1, rfl, rfl, hs, hbel⟩ := hrel
    by_cases hlt : k < xs.length
    · obtain ⟨g, o, c', e, e1, hlk, hok, hg, q0, q1⟩ := (HX.out.below (hbel.out.mono hB)).at_ hlt
      injection e1 with e1 _ e3
      subst e1 e3
      obtain ⟨Ad, cd, hdv, _, _⟩ := hok.rd.form
      obtain ⟨dv, data, lab⟩ := e
      simp only at hdv q0 q1
      subst hdv
      rw [length_ints] at q0
      rw [length_ints] at hlk hok
      have hdl := hok.len
      simp only at hdl
      have HST := Lib.hid (sumLen_step hlk)
      have hsz := hbel.out.size
      have a1 : g < wr.heap.size := by omega
      have hs' := hs.out
      have HBX := Lib.hid (hbel.out.trans ((one_alloc wr (.cells #[.slice Ad data.length cd, .int .i64 lab] 45)).mono hsz))
      obtain ⟨n, hn⟩ : ∃ n, sumLen (xs.take k) = n := ⟨_, rfl⟩
      rw [hn] at hs' HST ⊢
      have i1 : (0 : Int) ≤ (k : Int) := by omega
      have i2 : (k : Int) < (xs.length : Int) := by omega
      have hw : wrap64 ((n : Int) + (data.length : Int)) = (n : Int) + (data.length : Int) := by unfold wrap64; omega
      have HW := Lib.hid hw
      clear hlk hok hn hw
      obtain ⟨N, hN⟩ : ∃ N : Nat, n + data.length = N := ⟨_, rfl⟩
      have hNI : (n : Int) + (data.length : Int) = (N : Int) := by omega
      have hNS : sumLen (xs.take (k + 1)) = N := by rw [HST.out]; exact hN
      have HNS := Lib.hid hNS
      clear hN hNS
      go_wp2_with fail
      · go_ret
        exact LightOf.no HBX.out
      · rename_i hw1
        obtain ⟨hw1, hw2⟩ := hw1
        clear hs HW HST hNI hs'
        go_roundw
        case rel => exact ⟨k + 1, by omega, by omega, by go_num, by rw [HNS.out], Lib.hid (by rw [HNS.out]; omega), HBX⟩
        case measure => simp [intOf]; omega
      · go_ret
        exact LightOf.no HBX.out
    · obtain rfl : k = xs.length := by omega
      have hs' := hs.out
      rw [List.take_length] at hs'
      have HS := Lib.hid hs'
      clear hs'
      go_wp2
      go_ret
      exact LightOf.yes ⟨hk1, HS.out⟩ hbel.out
end Go.Proofs.Ytfhlailhcfjjaaa
