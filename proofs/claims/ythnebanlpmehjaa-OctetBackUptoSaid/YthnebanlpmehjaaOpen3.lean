/- Arguments opened: bytes; rows of calls of chapter 3. -/
import Derived.Test.YthnebanlpmehjaaOpen
import Derived.Test.YthnebanlpmehjaaRows
namespace Go.Proofs.Ythnebanlpmehjaa
open Go.ChangeShapes Go.WideShapes Go.ChangeAt Go.RowKit Go.Deep
set_option linter.unusedVariables false

section
variable {H : Type} {enc : TypeId × Value → H} {w : World} {base : Nat} {spare : Nat → Bool} {held : Bool}
theorem reach_of {ts : List TypeId} {ds : List (DataW H)} (h : (DataW.weightsEach Try.prog ts ds).all (· ≤ reachBytes) = true) {j : Nat} {t : TypeId} {d : DataW H} (ht : ts[j]? = some t) (hd : ds[j]? = some d) : ∀ k ∈ d.weights Try.prog t, k ≤ reachBytes := by
  intro k hk
  have := List.all_eq_true.1 h k (DataW.weights_mem_each ht hd k hk)
  simpa using this
theorem reach47 : reachBytes = 140737488351232 := by decide

theorem dec_byte {n : Nat} {cs : List Value} {y : DataW H × List MemPlace} (h : DataW.trod enc Try.prog w base spare held n 5 cs = some y) (_ : ∀ k ∈ y.1.weights Try.prog 5, k ≤ reachBytes) :
    ∃ a : UInt8, cs = [.int .u8 (a.toNat : Int)] := by
  obtain ⟨m, rfl, rfl, hw⟩ := DataW.trod_int Try.underlying5 h
  have hb : 0 ≤ m ∧ m ≤ 255 := by simpa [Lit.wf, IntKind.min, IntKind.max, IntKind.signed, IntKind.bits] using hw
  refine ⟨UInt8.ofNat m.toNat, ?_⟩
  have : (UInt8.ofNat m.toNat).toNat = m.toNat := by simp; omega
  rw [this]
  congr 2
  omega
theorem cells_byte : Try.prog.cellsOf 5 = 1 := by kernel_rfl
theorem bytes_byte : Try.prog.bytesOf 5 = 1 := by kernel_rfl
/-- a slice of bytes, as its one cell -/
theorem dec_bytes {fuel : Nat} {v : Value} {x : DataW H × List MemPlace} (h : DataW.trod enc Try.prog w base spare held fuel 24 [v] = some x) (hwt : ∀ k ∈ x.1.weights Try.prog 24, k ≤ reachBytes) :
    ∃ bs : List UInt8, Reads w w.heap.size v (bytesV bs) ∧ bs.length ≤ 140737488351232 := by
  obtain ⟨l, hr, hl, hform, hlen⟩ := dec_slice (fun cs (a : UInt8) => cs = [.int .u8 (a.toNat : Int)]) Try.underlying24 (by rw [cells_byte]; omega) (fun n cs y hy hk => dec_byte hy hk) h hwt
  rw [cells_byte] at hr
  rw [bytes_byte, reach47] at hlen
  have e : l.flatMap (·.1) = bytesV (l.map (·.2)) := by
    clear hr hlen hform
    induction l with
    | nil => rfl
    | cons p l ih =>
      rw [List.flatMap_cons, (hl p (by simp)).1, ih (fun q hq => hl q (by simp [hq]))]
      simp [bytesV]
  rw [e] at hr
  exact ⟨l.map (·.2), hr.one, by simpa using hlen⟩
theorem open_bytesP {v : Value} {d : DataW H} {p : List MemPlace} (hok : Value.okWide Try.prog w .any base 24 v) (h : DataW.Trod enc Try.prog w 0 (fun _ => true) true 24 v d p) (hwt : ∀ k ∈ d.weights Try.prog 24, k ≤ reachBytes) :
    ∃ bs : List UInt8, Reads w w.heap.size v (bytesV bs) ∧ bs.length ≤ 140737488351232 := by
  obtain ⟨a, n, c, rfl⟩ := okWide_slice Try.underlying24 hok
  obtain ⟨fuel, hf⟩ := h
  exact dec_bytes (v := .slice a n c) (by simpa [Value.cells] using hf) hwt

/-- one call -/
structure CallV where
  dd : Int
  n : Nat
  rv : Value
  raw : List UInt8
instance : Inhabited CallV := ⟨⟨0, 0, undef, []⟩⟩
def CallV.cells (c : CallV) : List Value := [.int .i64 c.dd, .int .u64 c.n, c.rv]
def CallV.ok (w : World) (c : CallV) : Prop := -9223372036854775808 ≤ c.dd ∧ c.dd ≤ 9223372036854775807 ∧ c.n < 18446744073709551616 ∧ Reads w w.heap.size c.rv (bytesV c.raw) ∧ c.raw.length ≤ 140737488351232
theorem cells_call : Try.prog.cellsOf 46 = 3 := by kernel_rfl
theorem cells_bytes : Try.prog.cellsOf 24 = 1 := by kernel_rfl
theorem cells_u64 : Try.prog.cellsOf 22 = 1 := by kernel_rfl
theorem cells_int : Try.prog.cellsOf 3 = 1 := by kernel_rfl
theorem weights_part {P : Program} : ∀ {ts : List TypeId} {ds : List (DataW H)} {j : Nat} {t : TypeId} {d : DataW H}, ts[j]? = some t → ds[j]? = some d → ∀ n ∈ d.weights P t, n ∈ DataW.weightsEach P ts ds := @DataW.weights_mem_each H P
theorem dec_call {n : Nat} {cs : List Value} {y : DataW H × List MemPlace} (h : DataW.trod enc Try.prog w base spare held n 46 cs = some y) (hwt : ∀ k ∈ y.1.weights Try.prog 46, k ≤ reachBytes) :
    ∃ a : CallV, cs = a.cells ∧ a.ok w := by
  obtain ⟨xs, m, rfl, rfl, hlen, hxl, hf⟩ := DataW.trod_struct Try.underlying46 h
  rw [cells_call] at hlen
  match cs, hlen with
  | [c0, c1, c2], _ =>
    match xs, hxl with
    | [x0, x1, x2], _ =>
      have h0 : DataW.trod enc Try.prog w base spare held m 3 [c0] = some x0 := by
        have h := hf 0 _ rfl
        simpa [cells_int] using h
      have h1 : DataW.trod enc Try.prog w base spare held m 22 [c1] = some x1 := by
        have h := hf 1 _ rfl
        simpa [cells_u64] using h
      have h2 : DataW.trod enc Try.prog w base spare held m 24 [c2] = some x2 := by
        have h := hf 2 _ rfl
        simpa [cells_bytes] using h
      obtain ⟨a, ea, rfl, wa⟩ := DataW.trod_int Try.underlying3 h0
      obtain ⟨b, eb, rfl, wb⟩ := DataW.trod_int Try.underlying22 h1
      simp only [List.cons.injEq, and_true] at ea eb
      subst ea eb
      obtain ⟨bs, hr, hl⟩ := dec_bytes h2 (fun k hk => hwt k (by
        simp only [DataW.weights, Try.underlying46]
        exact weights_part (j := 2) (t := 24) (d := x2.1) rfl rfl k hk))
      have ha : -9223372036854775808 ≤ a ∧ a ≤ 9223372036854775807 := by
        simp only [Lit.wf, IntKind.min, IntKind.max, IntKind.signed, IntKind.bits, Bool.and_eq_true] at wa
        have h2 : (2:Int)^63 = 9223372036854775808 := by decide
        simp at wa
        omega
      have hb : 0 ≤ b ∧ b < 18446744073709551616 := by
        simp only [Lit.wf, IntKind.min, IntKind.max, IntKind.signed, IntKind.bits, Bool.and_eq_true] at wb
        have h2 : (2:Int)^64 = 18446744073709551616 := by decide
        simp at wb
        omega
      obtain ⟨n, rfl⟩ := Int.eq_ofNat_of_zero_le hb.1
      exact ⟨⟨a, n, c2, bs⟩, rfl, ha.1, ha.2, by show n < 18446744073709551616; omega, hr, hl⟩
/-- the row of calls: its cells, and what they are -/
structure CallsOf (w : World) (v : Value) (l : List CallV) : Prop where
  rd : ReadsN 3 w w.heap.size v (l.flatMap CallV.cells)
  ok : Hid (∀ c ∈ l, c.ok w)
  form : ∃ A c, v = .slice A l.length c
  len : l.length ≤ 140737488351232
theorem open_callsP {v : Value} {d : DataW H} {p : List MemPlace} (hok : Value.okWide Try.prog w .any base 35 v) (h : DataW.Trod enc Try.prog w 0 (fun _ => true) true 35 v d p) (hwt : ∀ k ∈ d.weights Try.prog 35, k ≤ reachBytes) :
    ∃ l : List CallV, CallsOf w v l := by
  obtain ⟨a, n, c, rfl⟩ := okWide_slice Try.underlying35 hok
  obtain ⟨fuel, hf⟩ := h
  obtain ⟨l, hr, hl, ⟨A, c', e⟩, hlen⟩ := dec_slice (v := .slice a n c) (fun cs (x : CallV) => cs = x.cells ∧ x.ok w) Try.underlying35 (by rw [cells_call]; omega) (fun n cs y hy hk => dec_call hy hk) (by simpa [Value.cells] using hf) hwt
  rw [cells_call] at hr
  have e2 : l.flatMap (·.1) = (l.map (·.2)).flatMap CallV.cells := by
    clear hr hlen e
    induction l with
    | nil => rfl
    | cons p l ih =>
      rw [List.flatMap_cons, (hl p (by simp)).1.1, ih (fun q hq => hl q (by simp [hq]))]
      simp
  rw [e2] at hr
  have hb : Try.prog.bytesOf 46 = 40 := by kernel_rfl
  rw [hb, reach47] at hlen
  refine ⟨l.map (·.2), hr, Lib.hid (fun c hc => ?_), ⟨A, c', by simpa using e⟩, by simp; omega⟩
  obtain ⟨p, hp, rfl⟩ := List.mem_map.1 hc
  exact (hl p hp).1.2
end
end Go.Proofs.Ythnebanlpmehjaa
