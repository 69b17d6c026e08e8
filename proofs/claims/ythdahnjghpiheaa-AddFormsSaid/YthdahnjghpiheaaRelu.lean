/- Contracts of unit.Relu and of what it calls. -/
import Derived.Test.YthdahnjghpiheaaUnitShapeP
import Derived.Deep.RegionHeld3
import Derived.Deep.DrawnRows
namespace Go.Proofs.Ythdahnjghpiheaa
open Go.RowKit
set_option linter.unusedVariables false

theorem two_alloc0 (w : World) (o o' : Obj) : Below w.heap.size w ((w.alloc o).alloc o') := ((Below.refl _ _).alloc (Nat.le_refl _) _).alloc (by simp) _
theorem relu1_any (k : Nat) (x : List Int) (u : Int) (hu : x[k]? = some u) (w : World) (b B : Nat) (A : Option Addr) (c : Nat) (hc : w.cell? ⟨b, 2, none⟩ = some (.slice A x.length c)) (hx : Reads w B (.slice A x.length c) (ints .i8 x)) :
    Calls Try.prog 36 #[.int .i64 k, .pointer (some ⟨b, 0, none⟩)] w fun en w' => en = .returned (.int .i8 (max 0 u)) ∧ w = w' := by
  obtain ⟨hk, hku⟩ := List.getElem?_eq_some_iff.1 hu
  obtain ⟨A', n, c', he, hn, hcc, hm, ha⟩ := hx
  injection he with q1 q2 q3
  subst q1 q2 q3
  obtain ⟨g, o, rfl, hg, hy⟩ := ha.out (by omega)
  have z1 := hy k (.int .i8 x[k]) (ints_at _ _ _ hk)
  rw [hku] at z1
  have i1 : (0 : Int) ≤ (k : Int) := by omega
  have i2 : (k : Int) < (x.length : Int) := by omega
  have i3 : (k : Int) ≤ 9223372036854775807 := by unfold maxLen at hm; omega
  clear hu hku ha hy hn hcc hm hg
  go_enter Try.func36, Try.ntmps36
  go_wp2
  all_goals
    go_ret
    refine ⟨?_, rfl⟩
    show Ending.returned (.int .i8 _) = _
    congr 2
    omega
end Go.Proofs.Ythdahnjghpiheaa
