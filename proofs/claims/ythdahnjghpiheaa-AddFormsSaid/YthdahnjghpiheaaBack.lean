/- Contract of unit.ReluBack. -/
import Derived.Test.YthdahnjghpiheaaLike2
import Derived.Test.YthdahnjghpiheaaReluP
namespace Go.Proofs.Ythdahnjghpiheaa
open Go.RowKit
set_option linter.unusedVariables false

def slopeI : List Int → List Int → List Int
  | g :: gs, x :: xs => (if 0 < x then g else 0) :: slopeI gs xs
  | _, _ => []
theorem slope_length : ∀ (g x : List Int), g.length = x.length → (slopeI g x).length = g.length
  | [], [], _ => rfl
  | g :: gs, x :: xs, h => by simp only [slopeI, List.length_cons] at h ⊢; rw [slope_length gs xs (by omega)]
theorem slope_at : ∀ (g x : List Int) (k : Nat) (u v : Int), g[k]? = some u → x[k]? = some v → (slopeI g x)[k]? = some (if 0 < v then u else 0)
  | g :: gs, x :: xs, 0, u, v, h1, h2 => by simp at h1 h2; subst h1 h2; rfl
  | g :: gs, x :: xs, k + 1, u, v, h1, h2 => by
    simp only [slopeI, List.getElem?_cons_succ] at h1 h2 ⊢
    exact slope_at gs xs k u v h1 h2
theorem slope_mem : ∀ (g x : List Int) (y : Int), y ∈ slopeI g x → y = 0 ∨ y ∈ g
  | g :: gs, x :: xs, y, h => by
    simp only [slopeI, List.mem_cons] at h
    rcases h with h | h
    · split at h
      · exact .inr (by simp [h])
      · exact .inl h
    · rcases slope_mem gs xs y h with h | h
      · exact .inl h
      · exact .inr (by simp [h])
theorem slope_self (x : List Int) : slopeI x x = reluI x := by
  induction x with
  | nil => rfl
  | cons y ys ih =>
    simp only [slopeI, reluI, List.map_cons] at ih ⊢
    rw [ih]
    congr 1
    split <;> omega

theorem back1_any (k : Nat) (x y : List Int) (u v : Int) (hu : y[k]? = some u) (hv : x[k]? = some v) (w : World) (b b' B : Nat) (A A' : Option Addr) (c c' : Nat)
    (hc : w.cell? ⟨b, 2, none⟩ = some (.slice A x.length c)) (hx : Reads w B (.slice A x.length c) (ints .i8 x))
    (hc' : w.cell? ⟨b', 2, none⟩ = some (.slice A' y.length c')) (hy : Reads w B (.slice A' y.length c') (ints .i8 y)) :
    Calls Try.prog 40 #[.int .i64 k, .pointer (some ⟨b, 0, none⟩), .pointer (some ⟨b', 0, none⟩)] w fun en w' => en = .returned (.int .i8 (if 0 < v then u else 0)) ∧ w = w' := by
  obtain ⟨hk, hku⟩ := List.getElem?_eq_some_iff.1 hu
  obtain ⟨hk', hkv⟩ := List.getElem?_eq_some_iff.1 hv
  obtain ⟨A1, n, c1, he, hn, hcc, hm, ha⟩ := hx
  injection he with q1 q2 q3
  subst q1 q2 q3
  obtain ⟨A2, n2, c2, he2, hn2, hcc2, hm2, ha2⟩ := hy
  injection he2 with q1 q2 q3
  subst q1 q2 q3
  obtain ⟨g, o, rfl, hg, hy⟩ := ha.out (by omega)
  obtain ⟨g', o', rfl, hg', hy'⟩ := ha2.out (by omega)
  have z1 := hy k (.int .i8 x[k]) (ints_at _ _ _ hk')
  have z2 := hy' k (.int .i8 y[k]) (ints_at _ _ _ hk)
  rw [hkv] at z1
  rw [hku] at z2
  have i1 : (0 : Int) ≤ (k : Int) := by omega
  have i2 : (k : Int) < (x.length : Int) := by omega
  have i2' : (k : Int) < (y.length : Int) := by omega
  have i3 : (k : Int) ≤ 9223372036854775807 := by unfold maxLen at hm; omega
  clear hu hku ha hy hn hcc hm hg hv hkv ha2 hy' hn2 hcc2 hm2 hg'
  by_cases h0 : 0 < v
  · have e1 : decide (0 < v) = true := by simpa using h0
    rw [if_pos h0]
    clear h0
    go_enter Try.func40, Try.ntmps40
    go_wp2
    go_ret
    exact ⟨rfl, rfl⟩
  · have e1 : decide (0 < v) = false := by simpa using h0
    rw [if_neg h0]
    clear h0
    go_enter Try.func40, Try.ntmps40
    go_wp2
    go_ret
    exact ⟨rfl, rfl⟩
theorem hands_back (w : World) (B b b' : Nat) (x y : List Int) (A A' : Option Addr) (c c' : Nat) (dv dv' : Value) (exp exp' : Int) (hB : B ≤ w.heap.size)
    (hk : Blk w b 25 [dv, .int .i64 exp, .slice A x.length c]) (hx : Reads w B (.slice A x.length c) (ints .i8 x))
    (hk' : Blk w b' 25 [dv', .int .i64 exp', .slice A' y.length c']) (hy : Reads w B (.slice A' y.length c') (ints .i8 y)) (hl : y.length = x.length) :
    Hands2 (.pointer (some ⟨b, 0, none⟩)) (.pointer (some ⟨b', 0, none⟩)) (slopeI y x) w := by
  intro k u w' hu hb
  have hlen := slope_length y x hl
  obtain ⟨hk1, _⟩ := List.getElem?_eq_some_iff.1 hu
  have h1 : y[k]? = some y[k] := List.getElem?_eq_getElem (by omega)
  have h2 : x[k]? = some x[k] := List.getElem?_eq_getElem (by omega)
  rw [slope_at y x k _ _ h1 h2] at hu
  injection hu with hu
  rw [← hu]
  exact back1_any k x y _ _ h1 h2 w' b b' B A A' c c' ((hk.below hb hk.lt).cell 2) (hx.below (hb.mono hB)) ((hk'.below hb hk'.lt).cell 2) (hy.below (hb.mono hB))
theorem same_any (d e : List Int) (v v' : Value) (w : World) (B B' : Nat) (h : Reads w B v (ints .i64 d)) (h' : Reads w B' v' (ints .i64 e)) :
    Calls Try.prog 39 #[v, v'] w fun en w' => en = .returned (.bool (d == e)) ∧ ∃ m, w' = w.drewN m := by
  have HS := Lib.hid (equal_int_any d e v v' w B B' h h')
  obtain ⟨A, c, rfl, _, _⟩ := h.form
  obtain ⟨A', c', rfl, _, _⟩ := h'.form
  clear h h'
  go_enter Try.func39, Try.ntmps39
  go_wp2_with fail
  refine HS.out.mono ?_
  rintro en w' hq
  obtain ⟨rfl, m, rfl⟩ := hq
  go_wp2
  go_ret
  exact ⟨rfl, m, rfl⟩
end Go.Proofs.Ythdahnjghpiheaa
