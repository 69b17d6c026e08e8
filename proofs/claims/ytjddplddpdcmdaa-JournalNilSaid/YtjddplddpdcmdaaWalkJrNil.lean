/- The walk of JournalNil. -/
import Derived.Test.YtjddplddpdcmdaaJrAwake
import Derived.Test.YtjddplddpdcmdaaOpen3
namespace Go.Proofs.Ytjddplddpdcmdaa
open Go.RowKit
set_option linter.unusedVariables false
set_option linter.unusedSimpArgs false

section
variable {w : World}
theorem jn_len : Calls Try.prog 31 #[.pointer none] w fun en w' => en = .returned (.int .i64 0) ∧ w = w' := by
  go_enter Try.func31, Try.ntmps31
  go_wp2
  go_ret
  exact ⟨rfl, rfl⟩
theorem jn_open : Calls Try.prog 11 #[.pointer none] w fun en w' => en = .returned (.tuple #[.pointer none, .int .i64 1]) ∧ w = w' := by
  go_enter Try.func11, Try.ntmps11
  go_wp2_with fail
  refine jn_len.mono ?_
  rintro en w' ⟨rfl, rfl⟩
  go_wp2
  refine bodyPost_ret (v := .tuple #[.pointer none, .int .i64 1]) (by simp [results, Try.results11, go_sem]) rfl ?_
  exact ⟨rfl, rfl⟩
theorem jn_last : Calls Try.prog 16 #[.pointer none] w fun en w' => en = .returned (.tuple #[.slice none 0 0, .bool false]) ∧ w = w' := by
  go_enter Try.func16, Try.ntmps16
  go_wp2
  refine bodyPost_ret (v := .tuple #[.slice none 0 0, .bool false]) (by simp [results, Try.results16, go_sem]) rfl ?_
  exact ⟨rfl, rfl⟩
theorem jn_commit (A : Option Addr) (n c : Nat) : Calls Try.prog 15 #[.pointer none, .slice A n c] w fun en w' => en = .returned (.int .i64 1) ∧ w = w' := by
  go_enter Try.func15, Try.ntmps15
  go_wp2
  go_ret
  exact ⟨rfl, rfl⟩
theorem jn_gen : Calls Try.prog 12 #[.pointer none] w fun en w' => en = .returned (.int .u32 0) ∧ w = w' := by
  go_enter Try.func12, Try.ntmps12
  go_wp2
  go_ret
  exact ⟨rfl, rfl⟩
theorem jn_room : Calls Try.prog 13 #[.pointer none] w fun en w' => en = .returned (.int .i64 0) ∧ w = w' := by
  go_enter Try.func13, Try.ntmps13
  go_wp2
  go_ret
  exact ⟨rfl, rfl⟩
end
set_option maxHeartbeats 3200000 in
set_option maxRecDepth 100000 in
theorem journalNil_walk (v0 : Value) (a0 : List UInt8) (a1 : Int) (w : World) (o0 : Reads w w.heap.size v0 (bytesV a0) ∧ a0.length ≤ 140737488351232) (w1 : (Lit.int .i64 a1).wf = true) :
    Calls Try.prog 5 #[v0, .int .i64 a1] w fun en w' => en = .returned (.bool true) ∧ Below w.heap.size w w' := by
  obtain ⟨A, c, rfl, _, _⟩ := o0.1.form
  clear o0 w1
  generalize (bytesV a0).length = n
  have HS := Lib.hid (jsectors_any w a1)
  have HR := Lib.hid (rsectors_any w a1)
  generalize sectorsJ a1 = x at HS HR
  have tx : (x == x) = true := by simp
  go_enter Try.func5, Try.ntmps5
  go_wp2_with fail
  refine jn_open.mono ?_
  rintro en w' ⟨rfl, rfl⟩
  dsimp only
  go_wp2_with fail
  refine jn_last.mono ?_
  rintro en w' ⟨rfl, rfl⟩
  dsimp only
  go_wp2_with fail
  refine (jn_commit A n c).mono ?_
  rintro en w' ⟨rfl, rfl⟩
  go_wp2_with fail
  refine jn_gen.mono ?_
  rintro en w' ⟨rfl, rfl⟩
  go_wp2_with fail
  refine jn_room.mono ?_
  rintro en w' ⟨rfl, rfl⟩
  go_wp2_with fail
  refine HS.out.mono ?_
  rintro en w' ⟨rfl, rfl⟩
  go_wp2_with fail
  refine HR.out.mono ?_
  rintro en w' ⟨rfl, rfl⟩
  go_wp2_with fail
  refine (awake6_any _).mono ?_
  rintro en w' ⟨rfl, hb⟩
  have HB := Lib.hid hb
  clear hb
  go_wp2
  go_ret
  exact ⟨rfl, HB.out⟩
end Go.Proofs.Ytjddplddpdcmdaa
