/- Contracts of batch.Steps, batch.Which. -/
import Derived.Test.YtfhlailhcfjjaaaPerm
import Derived.Test.YtfhlailhcfjjaaaSlices
import Derived.Test.YtfhlailhcfjjaaaSame
import Derived.Laws.Small
namespace Go.Proofs.Ytfhlailhcfjjaaa
open Go.RowKit
set_option linter.unusedVariables false
set_option linter.unusedSimpArgs false

theorem run_min_keep {P : Program} {w : World} (ts : Array TypeId) (t : TypeId) (x y : Int) : (Builtin.min_ ts t #[.int .i64 x, .int .i64 y]).run P w = .ok (.int .i64 (min x y)) w := by
  rw [run_min_int2]
  congr 2
  omega
attribute [local go_sem high] run_min_keep

/-- how many steps an epoch has -/
def stepsN (n s : Nat) : Nat := (n + s - 1) / s
theorem steps_pos {n s : Nat} (hn : 1 ≤ n) (hs : 1 ≤ s) : 1 ≤ stepsN n s := by
  unfold stepsN
  exact (Nat.one_le_div_iff (by omega)).2 (by omega)
theorem steps_le {n s : Nat} (hn : 1 ≤ n) (hs : 1 ≤ s) : stepsN n s ≤ n := by
  unfold stepsN
  apply Nat.div_le_of_le_mul
  obtain ⟨r, rfl⟩ := Nat.exists_eq_add_of_le hs
  rw [Nat.add_mul, Nat.one_mul]
  have : r * 1 ≤ r * n := Nat.mul_le_mul_left r hn
  omega
/-- all are reached -/
theorem steps_all (n s : Nat) (hs : 1 ≤ s) : n ≤ stepsN n s * s := by
  unfold stepsN
  have h := Nat.div_add_mod (n + s - 1) s
  have h2 := Nat.mod_lt (n + s - 1) (by omega : 0 < s)
  rw [Nat.mul_comm] at h
  omega
theorem steps_lt {n s i : Nat} (hn : 1 ≤ n) (hs : 1 ≤ s) (h : i < stepsN n s) : i * s < n := by
  have h0 : (i + 1) * s ≤ stepsN n s * s := Nat.mul_le_mul_right s h
  have h1 : stepsN n s * s ≤ n + s - 1 := by unfold stepsN; exact Nat.div_mul_le_self _ _
  rw [Nat.add_mul, Nat.one_mul] at h0
  omega
theorem steps_any (n s : Nat) (w : World) (hn : 1 ≤ n) (hn' : n ≤ 64) (hs : 1 ≤ s) (hs' : s ≤ 8) :
    Calls Try.prog 12 #[.int .i64 n, .int .i64 s] w fun en w' => en = .returned (.int .i64 (stepsN n s : Nat)) ∧ w = w' := by
  have hq : ((n : Int) + (s : Int) - 1) / (s : Int) = (stepsN n s : Nat) := by
    unfold stepsN
    rw [Int.natCast_ediv]
    congr 1
    omega
  generalize stepsN n s = K at hq
  have t1 : decide ((n : Int) < 1) = false := by simp; omega
  have t2 : decide (64 < (n : Int)) = false := by simp; omega
  have t3 : decide ((s : Int) < 1) = false := by simp; omega
  have t4 : decide (8 < (s : Int)) = false := by simp; omega
  have hne : ¬ (s : Int) = 0 := by omega
  have HQ := Lib.hid hq
  clear hq
  go_enter Try.func12, Try.ntmps12
  go_wp2
  go_ret
  refine ⟨?_, rfl⟩
  rw [← HQ.out]
  rfl

/-- the examples of a step -/
def chunkI (xs : List Int) (s i : Nat) : List Int := (xs.drop (i * s)).take s
def orderI (seed : Int) (n ep : Nat) : List Int := permI seed (1099511627776 + (ep : Int)) n
theorem chunk_length (xs : List Int) (s i : Nat) : (chunkI xs s i).length = min s (xs.length - i * s) := by simp [chunkI]
theorem chunk_next (xs : List Int) (s i : Nat) : xs.take (i * s) ++ chunkI xs s i = xs.take ((i + 1) * s) := by
  unfold chunkI
  rw [Nat.add_mul, Nat.one_mul, List.take_add]

set_option maxHeartbeats 1600000 in
set_option maxRecDepth 100000 in
theorem which_any (seed : Int) (n s ep i : Nat) (w : World) (h0 : 0 ≤ seed) (h1 : seed < 18446744073709551616) (hn : 1 ≤ n) (hn' : n ≤ 64) (hs : 1 ≤ s) (hs' : s ≤ 8) (he : ep ≤ 1000) (hi : i < stepsN n s) :
    Calls Try.prog 13 #[.int .u64 seed, .int .i64 n, .int .i64 s, .int .i64 ((ep * stepsN n s + i : Nat) : Int)] w (New_int w (chunkI (orderI seed n ep) s i)) := by
  have hK := steps_pos hn hs
  have hK' := steps_le hn hs
  have hlt := steps_lt hn hs hi
  have HS := Lib.hid (steps_any n s w hn hn' hs hs')
  obtain ⟨K, hKe⟩ : ∃ K, stepsN n s = K := ⟨_, rfl⟩
  rw [hKe] at hi hK hK' HS ⊢
  have hstep : ep * K + i ≤ 1000000 := by
    have : ep * K ≤ 1000 * 64 := Nat.mul_le_mul he (by omega)
    omega
  have hq : ((ep * K + i : Nat) : Int) / (K : Int) = (ep : Int) := by
    rw [← Int.natCast_ediv]
    congr 1
    rw [Nat.mul_comm, Nat.mul_add_div (by omega), Nat.div_eq_of_lt hi, Nat.add_zero]
  have hr : ((ep * K + i : Nat) : Int) % (K : Int) = (i : Int) := by
    rw [← Int.natCast_emod]
    congr 1
    rw [Nat.mul_comm, Nat.mul_add_mod, Nat.mod_eq_of_lt hi]
  obtain ⟨st, hst⟩ : ∃ st, ep * K + i = st := ⟨_, rfl⟩
  rw [hst] at hq hr hstep ⊢
  obtain ⟨f, hf⟩ : ∃ f, i * s = f := ⟨_, rfl⟩
  have hf' : (i : Int) * (s : Int) = (f : Int) := by rw [← hf]; simp
  rw [hf] at hlt
  obtain ⟨hh, hhe⟩ : ∃ h : Nat, h = min (f + s) n := ⟨_, rfl⟩
  have hmn : min ((f : Int) + (s : Int)) (n : Int) = (hh : Int) := by omega
  have hh0 : f ≤ hh := by omega
  have hh1 : hh ≤ n := by omega
  have hiK : i ≤ 64 := by omega
  have t1 : ((K : Int) == 0) = false := by simp; omega
  have t2 : decide ((st : Int) < 0) = false := by simp
  have t3 : decide (1000000 < (st : Int)) = false := by simp; omega
  have hne : ¬ (K : Int) = 0 := by omega
  have HP := Lib.hid (perm_any seed (1099511627776 + (ep : Int)) n h0 h1 (by omega) (by omega) w)
  have hpl := length_perm seed (1099511627776 + (ep : Int)) n hn (by omega)
  have hch : chunkI (orderI seed n ep) s i = ((permI seed (1099511627776 + (ep : Int)) n).drop f).take (hh - f) := by
    unfold chunkI orderI
    rw [hf, List.take_eq_take_iff, List.length_drop, hpl]
    omega
  rw [hch]
  generalize permI seed (1099511627776 + (ep : Int)) n = xs at HP hpl hch ⊢
  have HPL := Lib.hid hpl
  obtain ⟨ys, hys⟩ : ∃ ys, (xs.drop f).take (hh - f) = ys := ⟨_, rfl⟩
  rw [hys]
  have HYS := Lib.hid hys
  clear hys hch hpl hst hf hhe hKe hi
  go_enter Try.func13, Try.ntmps13
  go_wp2_with fail
  refine HS.out.mono ?_
  rintro en w' ⟨rfl, rfl⟩
  go_wp2_with fail
  refine HP.out.mono ?_
  rintro en w3 ⟨v, rfl, hown, hb3⟩
  obtain ⟨g, cap, rest, rfl, hg0, hg1, hcap, hcm, hrl, hxl, hblk⟩ := own_blk hown (by have := HPL.out; omega)
  have hxn := HPL.out
  rw [hxn] at hcap ⊢
  have c0 : (0 : Int) ≤ (f : Int) := by omega
  have c1 : (f : Int) ≤ (hh : Int) := by omega
  have c2 : (hh : Int) ≤ (cap : Int) := by omega
  have HB := Lib.hid hb3
  have HK := Lib.hid hblk
  clear hown hb3 hblk hxn hxl hrl
  go_wp2_with fail
  have hxl := HPL.out
  have hrd : Reads w3 w3.heap.size (.slice (some ⟨g, f, none⟩) (hh - f) (cap - f)) (ints .i64 ys) := by
    rw [← HYS.out]
    refine ⟨_, _, _, rfl, by rw [length_ints, List.length_take, List.length_drop]; omega, by omega, by omega, Lib.hid (fun _ => ⟨g, f, rfl, hg1, fun j u hu => ?_⟩)⟩
    rw [HK.out.cell]
    rw [ints, List.getElem?_map, List.getElem?_take] at hu
    split at hu
    · rename_i hj
      rw [List.getElem?_drop] at hu
      rw [List.getElem?_append_left (by rw [length_ints]; omega), ints, List.getElem?_map]
      exact hu
    · cases hu
  have hcl : ys.length = hh - f := by rw [← HYS.out, List.length_take, List.length_drop]; omega
  have HC := Lib.hid (clone_int w3 w3.heap.size _ _ hrd (Nat.le_refl _) (by rw [hcl]; omega))
  clear hrd hcl hxl
  refine HC.out.mono ?_
  rintro en w5 ⟨A5, c5, rfl, hown5, hb5⟩
  go_wp2
  go_ret
  exact ⟨A5, c5, rfl, own_lower hown5 HB.out.size, HB.out.trans (hb5.mono HB.out.size)⟩

theorem awake23_any (w : World) : Calls Try.prog 14 #[] w fun en w' => en = .returned (.bool true) ∧ Below w.heap.size w w' := by
  have H1 := Lib.hid (steps_any 5 2 w (by omega) (by omega) (by omega) (by omega))
  have H2 := Lib.hid (which_any 1 5 2 0 2 w (by omega) (by omega) (by omega) (by omega) (by omega) (by omega) (by omega) (by decide))
  have hl : (chunkI (orderI 1 5 0) 2 2).length = 1 := by
    rw [chunk_length]
    unfold orderI
    rw [length_perm _ _ 5 (by omega) (by omega)]
    decide
  have HL := Lib.hid hl
  clear hl
  go_enter Try.func14, Try.ntmps14
  go_wp2_with fail
  refine H1.out.mono ?_
  rintro en w' ⟨rfl, rfl⟩
  go_wp2_with fail
  refine H2.out.mono ?_
  rintro en w3 ⟨A, c, rfl, hown, hb⟩
  rw [HL.out]
  clear hown
  go_wp2
  go_ret
  exact ⟨rfl, hb⟩
end Go.Proofs.Ytfhlailhcfjjaaa
