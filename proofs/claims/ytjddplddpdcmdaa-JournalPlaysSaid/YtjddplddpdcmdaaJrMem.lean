/- A journal in memory; contracts of sectors, Room, Gen, Last, Sectors. -/
import Derived.Test.YtjddplddpdcmdaaSecRM
import Derived.Test.YtjddplddpdcmdaaJrHead
import Derived.Test.YtjddplddpdcmdaaJrEq
namespace Go.Proofs.Ytjddplddpdcmdaa
open Go.RowKit
set_option linter.unusedVariables false
set_option linter.unusedSimpArgs false

def jcells (d : Nat) (lv : Value) (j : Jr) : List Value := [.pointer (some ⟨d, 0, none⟩), .int .i64 (j.half : Int), .int .i64 (j.slot : Int), .int .u32 (j.gen : Int), lv, .bool j.broken]
/-- a journal at q, of the disk at d -/
def JD (w0 W : World) (ds : List (Nat × Dk)) (d : Nat) (s : Dk) (q : Nat) (j : Jr) (bs : List (Nat × TypeId × List Value)) (rs : List (Nat × Value × List Value)) : Prop :=
  ∃ lv, DM w0 W ((d, s) :: ds) ((q, 66, jcells d lv j) :: bs) rs ∧ (1, lv, bytesV j.last) ∈ rs ∧ j.Ok s.now.length
section
variable {w0 w W W' : World} {ds ds' : List (Nat × Dk)} {bs bs' : List (Nat × TypeId × List Value)} {rs rs' rs0 : List (Nat × Value × List Value)} {d q g k n : Nat} {s s' : Dk} {j j' : Jr} {v u : Value} {t : TypeId} {cs : List Value}
theorem JD.below (h : JD w0 W ds d s q j bs rs) (hb : Below W.heap.size W W') : JD w0 W' ds d s q j bs rs := by
  obtain ⟨lv, h1, h2, h3⟩ := h
  exact ⟨lv, h1.below hb, h2, h3⟩
theorem JD.drewN (h : JD w0 W ds d s q j bs rs) (n : Nat) : JD w0 (W.drewN n) ds d s q j bs rs := h.below ⟨rfl, rfl, rfl, Nat.le_refl _, fun _ _ => rfl⟩
theorem JD.bel (h : JD w0 W ds d s q j bs rs) : Below w0.heap.size w0 W := by
  obtain ⟨lv, h1, h2, h3⟩ := h
  exact h1.bel
theorem JD.ok (h : JD w0 W ds d s q j bs rs) : j.Ok s.now.length := by
  obtain ⟨lv, h1, h2, h3⟩ := h
  exact h3
theorem JD.sok (h : JD w0 W ds d s q j bs rs) : s.Ok := by
  obtain ⟨lv, h1, h2, h3⟩ := h
  exact h1.ok
/-- what the own block holds -/
theorem JD.cells (h : JD w0 W ds d s q j bs rs) : ∃ A c, q < W.heap.size ∧ W.cell? ⟨q, 0, none⟩ = some (.pointer (some ⟨d, 0, none⟩)) ∧ W.cell? ⟨q, 1, none⟩ = some (.int .i64 (j.half : Int)) ∧ W.cell? ⟨q, 2, none⟩ = some (.int .i64 (j.slot : Int)) ∧ W.cell? ⟨q, 3, none⟩ = some (.int .u32 (j.gen : Int)) ∧
    W.cell? ⟨q, 4, none⟩ = some (.slice A j.last.length c) ∧ W.cell? ⟨q, 5, none⟩ = some (.bool j.broken) ∧ Reads W W.heap.size (.slice A j.last.length c) (bytesV j.last) := by
  obtain ⟨lv, h1, h2, h3⟩ := h
  obtain ⟨A, c, rfl⟩ := h1.form1 h2
  have hb := h1.blk (.head _)
  exact ⟨A, c, hb.lt, hb.cell 0, hb.cell 1, hb.cell 2, hb.cell 3, hb.cell 4, hb.cell 5, h1.reads1 h2⟩
theorem jsecs_any (w : World) (n : Nat) (hn : n ≤ 140737488355328) : Calls Try.prog 38 #[.int .i64 (n : Int)] w fun en w' => en = .returned (.int .i64 (secsN n : Int)) ∧ w = w' := by
  have e1 : ((n : Int) + 64 - 1).tdiv 64 = (secsN n : Int) := by
    rw [show (n : Int) + 64 - 1 = ((n + 63 : Nat) : Int) by omega, Int.tdiv_eq_ediv_of_nonneg (by omega)]
    unfold secsN
    omega
  have HW : Hid (wrap64 (secsN n : Int) = (secsN n : Int)) := Lib.hid (by unfold wrap64 secsN; omega)
  go_enter Try.func38, Try.ntmps38
  go_wp2
  go_ret
  refine ⟨?_, rfl⟩
  show Ending.returned (.int .i64 (wrap64 (secsN n : Int))) = _
  rw [HW.out]
theorem jsectors_any (w : World) (n : Int) : Calls Try.prog 19 #[.int .i64 n] w fun en w' => en = .returned (.int .i64 (sectorsJ n)) ∧ w = w' := by
  unfold sectorsJ
  by_cases h0 : n < 0
  · have t0 : decide (n < 0) = true := by simp; omega
    rw [if_pos (.inl h0)]
    go_enter Try.func19, Try.ntmps19
    go_wp2
    go_ret
    exact ⟨rfl, rfl⟩
  · have t0 : decide (n < 0) = false := by simp; omega
    by_cases h1 : 1048576 < n
    · have t1 : decide (1048576 < n) = true := by simp; omega
      rw [if_pos (.inr h1)]
      go_enter Try.func19, Try.ntmps19
      go_wp2
      go_ret
      exact ⟨rfl, rfl⟩
    · have t1 : decide (1048576 < n) = false := by simp; omega
      rw [if_neg (by omega)]
      obtain ⟨m, rfl⟩ : ∃ m : Nat, n = m := ⟨n.toNat, by omega⟩
      have HE : Hid (2 * (1 + ((m : Int) + 63) / 64) = 2 * (1 + (secsN m : Int))) := Lib.hid (by unfold secsN; omega)
      have HM : Hid (m ≤ 140737488355328) := Lib.hid (by omega)
      have hs : (secsN m : Int) ≤ 20000 := by unfold secsN; omega
      rw [HE.out]
      go_enter Try.func19, Try.ntmps19
      go_wp2_with fail
      refine (jsecs_any w m HM.out).mono ?_
      rintro en w' ⟨rfl, rfl⟩
      go_wp2
      go_ret
      exact ⟨rfl, rfl⟩
theorem rsectors_any (w : World) (n : Int) : Calls Try.prog 20 #[.int .i64 n] w fun en w' => en = .returned (.int .i64 (sectorsJ n)) ∧ w = w' := by
  unfold sectorsJ
  by_cases h0 : n < 0
  · have t0 : decide (n < 0) = true := by simp; omega
    rw [if_pos (.inl h0)]
    go_enter Try.func20, Try.ntmps20
    go_wp2
    go_ret
    exact ⟨rfl, rfl⟩
  · have t0 : decide (n < 0) = false := by simp; omega
    by_cases h1 : 1048576 < n
    · have t1 : decide (1048576 < n) = true := by simp; omega
      rw [if_pos (.inr h1)]
      go_enter Try.func20, Try.ntmps20
      go_wp2
      go_ret
      exact ⟨rfl, rfl⟩
    · have t1 : decide (1048576 < n) = false := by simp; omega
      rw [if_neg (by omega)]
      have e1 : (n + 64 - 1).tdiv 64 = (n + 63) / 64 := by
        rw [show n + 64 - 1 = n + 63 by omega, Int.tdiv_eq_ediv_of_nonneg (by omega)]
      have e2 : wrap64 ((n + 63) / 64) = (n + 63) / 64 := by unfold wrap64; omega
      have hs : (n + 63) / 64 ≤ 20000 ∧ 0 ≤ (n + 63) / 64 := by omega
      obtain ⟨hs1, hs2⟩ := hs
      generalize (n + 63) / 64 = x at e1 e2 hs1 hs2 ⊢
      go_enter Try.func20, Try.ntmps20
      go_wp2
      go_ret
      exact ⟨rfl, rfl⟩
theorem jroom_any (h : JD w0 W ds d s q j bs rs) : Calls Try.prog 13 #[.pointer (some ⟨q, 0, none⟩)] W fun en w' => en = .returned (.int .i64 (roomJ j : Int)) ∧ W = w' := by
  obtain ⟨A, c, hq, k0, k1, k2, k3, k4, k5, hr⟩ := h.cells
  have hok := h.ok
  have h1 := hok.half
  have h2 := hok.four
  have h3 := hok.most
  have e1 : ((j.half : Int) - 1) * 64 = (roomJ j : Int) := by unfold roomJ; omega
  have hh : 1 ≤ (j.half : Int) ∧ (j.half : Int) ≤ 2048 := by omega
  obtain ⟨hh1, hh2⟩ := hh
  clear k0 k2 k3 k4 k5 hr hok h1 h2 h3 h
  go_enter Try.func13, Try.ntmps13
  go_wp2
  go_ret
  exact ⟨rfl, rfl⟩
theorem jgen_any (h : JD w0 W ds d s q j bs rs) : Calls Try.prog 12 #[.pointer (some ⟨q, 0, none⟩)] W fun en w' => en = .returned (.int .u32 (j.gen : Int)) ∧ W = w' := by
  obtain ⟨A, c, hq, k0, k1, k2, k3, k4, k5, hr⟩ := h.cells
  clear k0 k1 k2 k4 k5 hr h
  go_enter Try.func12, Try.ntmps12
  go_wp2
  go_ret
  exact ⟨rfl, rfl⟩
/-- what was committed last, of its own -/
def lastJ (j : Jr) : List UInt8 := if j.gen = 0 then [] else j.last
theorem jlast_any (h : JD w0 W ds d s q j bs rs) : Calls Try.prog 16 #[.pointer (some ⟨q, 0, none⟩)] W fun en W' => ∃ A n c, en = .returned (.tuple #[.slice A n c, .bool (decide (j.gen ≠ 0))]) ∧ Below W.heap.size W W' ∧ ReadsIn 1 (fun i => W.heap.size ≤ i) W' (.slice A n c) (bytesV (lastJ j)) := by
  obtain ⟨A, c, hq, k0, k1, k2, k3, k4, k5, hr⟩ := h.cells
  have hll : j.last.length ≤ 140737488355328 := by have := h.ok.last; have := h.ok.half; have := h.ok.most; omega
  have HLL := Lib.hid hll
  have HR := Lib.hid hr
  clear k0 k1 k2 k5 hr h hll
  by_cases hg : j.gen = 0
  · have HL : Hid (lastJ j = []) := Lib.hid (by unfold lastJ; rw [if_pos hg])
    have t1 : ((j.gen : Int) == 0) = true := by simp; omega
    have HG : Hid (decide (j.gen ≠ 0) = false) := Lib.hid (by simp; omega)
    go_enter Try.func16, Try.ntmps16
    go_wp2
    refine bodyPost_ret (v := .tuple #[.slice none 0 0, .bool false]) (by simp [results, Try.results16, go_sem]) rfl ?_
    rw [HL.out, HG.out]
    exact ⟨none, 0, 0, rfl, Below.refl _ _, ReadsIn.nil_ _ _⟩
  · have HL : Hid (lastJ j = j.last) := Lib.hid (by unfold lastJ; rw [if_neg hg])
    have t1 : ((j.gen : Int) == 0) = false := by simp; omega
    have HG : Hid (decide (j.gen ≠ 0) = true) := Lib.hid (by simp; omega)
    go_enter Try.func16, Try.ntmps16
    go_wp2_with fail
    refine (clone_any W W.heap.size _ j.last HR.out (Nat.le_refl _) HLL.out).mono ?_
    rintro en w' ⟨A1, c1, rfl, hown, hb⟩
    have HO := Lib.hid hown
    have HB := Lib.hid hb
    clear hown hb
    go_wp2
    refine bodyPost_ret (v := .tuple #[.slice A1 j.last.length c1, .bool true]) (by simp [results, Try.results16, go_sem]) rfl ?_
    rw [HL.out, HG.out]
    exact ⟨A1, _, c1, rfl, HB.out, own_readsIn (by omega) HO.out (fun i hi => (HO.out.lt i hi).1)⟩
end
end Go.Proofs.Ytjddplddpdcmdaa
