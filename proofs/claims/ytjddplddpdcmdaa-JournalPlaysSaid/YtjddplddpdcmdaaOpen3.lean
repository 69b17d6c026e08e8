/- Arguments opened: bytes; rows of calls of chapter 3. -/
import Derived.Test.YtjddplddpdcmdaaOpen
import Derived.Test.YtjddplddpdcmdaaRows
namespace Go.Proofs.Ytjddplddpdcmdaa
open Go.ChangeShapes Go.WideShapes Go.ChangeAt Go.RowKit Go.Deep
set_option linter.unusedVariables false
set_option linter.unusedSimpArgs false

section
variable {H : Type} {enc : TypeId × Value → H} {w : World} {base : Nat} {spare : Nat → Bool} {held : Bool}
theorem reach_of {ts : List TypeId} {ds : List (DataW H)} (h : (DataW.weightsEach Try.prog ts ds).all (· ≤ reachBytes) = true) {j : Nat} {t : TypeId} {d : DataW H} (ht : ts[j]? = some t) (hd : ds[j]? = some d) : ∀ k ∈ d.weights Try.prog t, k ≤ reachBytes := by
  intro k hk
  have := List.all_eq_true.1 h k (DataW.weights_mem_each ht hd k hk)
  simpa using this
theorem reach47 : reachBytes = 140737488351232 := by decide

theorem dec_byte {n : Nat} {cs : List Value} {y : DataW H × List MemPlace} (h : DataW.trod enc Try.prog w base spare held n 5 cs = some y) (_ : ∀ k ∈ y.1.weights Try.prog 5, k ≤ reachBytes) :
    ∃ a : UInt8, cs = [.int .u8 (a.toNat : Int)] := by
  obtain ⟨m, rfl, rfl, hw⟩ := DataW.trod_int Try.underlying5 h
  have hb : 0 ≤ m ∧ m ≤ 255 := by simpa [Lit.wf, IntKind.min, IntKind.max, IntKind.signed, IntKind.bits] using hw
  refine ⟨UInt8.ofNat m.toNat, ?_⟩
  have : (UInt8.ofNat m.toNat).toNat = m.toNat := by simp; omega
  rw [this]
  congr 2
  omega
theorem cells_byte : Try.prog.cellsOf 5 = 1 := by kernel_rfl
theorem bytes_byte : Try.prog.bytesOf 5 = 1 := by kernel_rfl
/-- a slice of bytes, as its one cell -/
theorem dec_bytes {fuel : Nat} {v : Value} {x : DataW H × List MemPlace} (h : DataW.trod enc Try.prog w base spare held fuel 31 [v] = some x) (hwt : ∀ k ∈ x.1.weights Try.prog 31, k ≤ reachBytes) :
    ∃ bs : List UInt8, Reads w w.heap.size v (bytesV bs) ∧ bs.length ≤ 140737488351232 := by
  obtain ⟨l, hr, hl, hform, hlen⟩ := dec_slice (fun cs (a : UInt8) => cs = [.int .u8 (a.toNat : Int)]) Try.underlying31 (by rw [cells_byte]; omega) (fun n cs y hy hk => dec_byte hy hk) h hwt
  rw [cells_byte] at hr
  rw [bytes_byte, reach47] at hlen
  have e : l.flatMap (·.1) = bytesV (l.map (·.2)) := by
    clear hr hlen hform
    induction l with
    | nil => rfl
    | cons p l ih =>
      rw [List.flatMap_cons, (hl p (by simp)).1, ih (fun q hq => hl q (by simp [hq]))]
      simp [bytesV]
  rw [e] at hr
  exact ⟨l.map (·.2), hr.one, by simpa using hlen⟩
theorem open_bytesP {v : Value} {d : DataW H} {p : List MemPlace} (hok : Value.okWide Try.prog w .any base 31 v) (h : DataW.Trod enc Try.prog w 0 (fun _ => true) true 31 v d p) (hwt : ∀ k ∈ d.weights Try.prog 31, k ≤ reachBytes) :
    ∃ bs : List UInt8, Reads w w.heap.size v (bytesV bs) ∧ bs.length ≤ 140737488351232 := by
  obtain ⟨a, n, c, rfl⟩ := okWide_slice Try.underlying31 hok
  obtain ⟨fuel, hf⟩ := h
  exact dec_bytes (v := .slice a n c) (by simpa [Value.cells] using hf) hwt

end
end Go.Proofs.Ytjddplddpdcmdaa
