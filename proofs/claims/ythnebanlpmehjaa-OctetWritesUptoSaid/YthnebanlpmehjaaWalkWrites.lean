/- The walk of OctetWrites. -/
import Derived.Test.YthnebanlpmehjaaWritten
namespace Go.Proofs.Ythnebanlpmehjaa
open Go.RowKit
set_option linter.unusedVariables false

set_option maxRecDepth 100000 in
theorem octetWrites_walk (v0 : Value) (a0 : List CallV) (w : World) (o0 : CallsOfB w v0 a0) :
    Calls Try.prog 4 #[v0] w fun e w' => e = .returned (.bool true) ∧ Below w.heap.size w w' := by
  have H := Lib.hid (written_any v0 a0 w o0)
  obtain ⟨A1, c1, rfl⟩ := o0.1.form
  clear o0
  go_enter Try.func4, Try.ntmps4
  go_wp2_with fail
  refine H.out.mono ?_
  rintro en w1 ⟨A, c, A', c', rfl, h1, h2, hb1⟩
  have q1 := run_str h1
  have q2 := run_str h2
  have HB1 := Lib.hid hb1
  clear h1 h2 hb1 H
  generalize encAll (a0.take 60) = bs at *
  have HQ1 := Lib.hid q1
  have HQ2 := Lib.hid q2
  go_wp2_with (go_at_call 14; refine (awake3_any _).mono ?_; rintro e w' ⟨rfl, hb9⟩)
  go_ret
  exact ⟨rfl, HB1.out.trans (hb9.mono HB1.out.size)⟩
end Go.Proofs.Ythnebanlpmehjaa
