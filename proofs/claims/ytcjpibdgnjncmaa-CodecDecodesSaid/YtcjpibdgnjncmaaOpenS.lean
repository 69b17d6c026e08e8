/- Arguments opened: params, states, bytes. -/
import Derived.Test.YtcjpibdgnjncmaaOpenT
import Derived.Test.YtcjpibdgnjncmaaCodMay
import Derived.Test.YtcjpibdgnjncmaaBytes
namespace Go.Proofs.Ytcjpibdgnjncmaa
open Go.ChangeShapes Go.WideShapes Go.ChangeAt Go.RowKit Go.Deep
set_option linter.unusedVariables false
set_option linter.unusedSimpArgs false

section
variable {H : Type} {enc : TypeId × Value → H} {w : World} {base : Nat} {spare : Nat → Bool} {held : Bool}
instance : Inhabited ParV := ⟨zeroV⟩
theorem cells_i32 : Try.prog.cellsOf 21 = 1 := by kernel_rfl
theorem bytes_i32 : Try.prog.bytesOf 21 = 4 := by kernel_rfl
theorem cells_i32s : Try.prog.cellsOf 41 = 1 := by kernel_rfl
theorem cells_param : Try.prog.cellsOf 43 = 7 := by kernel_rfl
theorem cells_params : Try.prog.cellsOf 23 = 1 := by kernel_rfl
theorem cells_state : Try.prog.cellsOf 25 = 3 := by kernel_rfl
theorem cells_u64 : Try.prog.cellsOf 22 = 1 := by kernel_rfl
theorem wf_i32 {a : Int} (wa : (Lit.int .i32 a).wf = true) : -2147483648 ≤ a ∧ a ≤ 2147483647 := by
  simpa [Lit.wf, IntKind.min, IntKind.max, IntKind.signed, IntKind.bits] using wa
theorem dec_i32s {fuel : Nat} {v : Value} {x : DataW H × List MemPlace} (h : DataW.trod enc Try.prog w base spare held fuel 41 [v] = some x) (hwt : ∀ k ∈ x.1.weights Try.prog 41, k ≤ reachBytes) :
    ∃ xs : List Int, Reads w w.heap.size v (ints .i32 xs) ∧ (∀ x ∈ xs, -2147483648 ≤ x ∧ x ≤ 2147483647) ∧ xs.length * 4 ≤ 140737488351232 := by
  obtain ⟨l, hr, hl, hform, hlen⟩ := dec_slice (fun cs (a : Int) => cs = [.int .i32 a] ∧ (-2147483648 ≤ a ∧ a ≤ 2147483647)) Try.underlying41 (by rw [cells_i32]; omega) (fun n cs y hy hk => by
    obtain ⟨m, rfl, rfl, hw⟩ := DataW.trod_int Try.underlying21 hy
    exact ⟨m, rfl, wf_i32 hw⟩) h hwt
  rw [cells_i32] at hr hl
  rw [bytes_i32, reach47] at hlen
  obtain ⟨e, hb⟩ := flat_ints .i32 (fun a => -2147483648 ≤ a ∧ a ≤ 2147483647) l hl
  rw [e] at hr
  exact ⟨l.map (·.2), hr.one, hb, by simpa using hlen⟩
set_option maxRecDepth 100000 in
theorem dec_param {n : Nat} {cs : List Value} {y : DataW H × List MemPlace} (h : DataW.trod enc Try.prog w base spare held n 43 cs = some y) (hwt : ∀ k ∈ y.1.weights Try.prog 43, k ≤ reachBytes) :
    ∃ a : ParV, cs = a.cells ∧ a.Ok w w.heap.size := by
  obtain ⟨xs, m, rfl, rfl, hlen, hxl, hf⟩ := DataW.trod_struct Try.underlying43 h
  rw [cells_param] at hlen
  match cs, hlen with
  | [c0, c1, c2, c3, c4, c5, c6], _ =>
    match xs, hxl with
    | [x0, x1, x2], _ =>
      have h0 : DataW.trod enc Try.prog w base spare held m 40 [c0, c1, c2] = some x0 := by
        have h := hf 0 _ rfl
        simpa [cells_tensor] using h
      have h1 : DataW.trod enc Try.prog w base spare held m 41 [c3] = some x1 := by
        have h := hf 1 _ rfl
        simpa [cells_i32s, cells_tensor] using h
      have h2 : DataW.trod enc Try.prog w base spare held m 40 [c4, c5, c6] = some x2 := by
        have h := hf 2 _ rfl
        simpa [cells_tensor, cells_i32s] using h
      obtain ⟨ta, ea, oa⟩ := dec_tensor h0 (fun k hk => hwt k (by
        simp only [DataW.weights, Try.underlying43]
        exact weights_part (j := 0) (t := 40) (d := x0.1) rfl rfl k hk))
      obtain ⟨ms, hm, hmb, hml⟩ := dec_i32s h1 (fun k hk => hwt k (by
        simp only [DataW.weights, Try.underlying43]
        exact weights_part (j := 1) (t := 41) (d := x1.1) rfl rfl k hk))
      obtain ⟨tb, eb, ob⟩ := dec_tensor h2 (fun k hk => hwt k (by
        simp only [DataW.weights, Try.underlying43]
        exact weights_part (j := 2) (t := 40) (d := x2.1) rfl rfl k hk))
      unfold TenV.cells at ea eb
      simp only [List.cons.injEq, and_true] at ea eb
      obtain ⟨rfl, rfl, rfl⟩ := ea
      obtain ⟨rfl, rfl, rfl⟩ := eb
      refine ⟨⟨ta.dv, ta.xv, c3, tb.dv, tb.xv, ⟨ta.dims, ta.exp, ta.data, ms, tb.dims, tb.exp, tb.data⟩⟩, rfl, oa.isT, hm, Lib.hid hmb, ob.isT, ?_⟩
      unfold lenP
      have := oa.ld
      have := oa.lx
      have := ob.ld
      have := ob.lx
      dsimp only
      omega
theorem dec_params {fuel : Nat} {v : Value} {x : DataW H × List MemPlace} (h : DataW.trod enc Try.prog w base spare held fuel 23 [v] = some x) (hwt : ∀ k ∈ x.1.weights Try.prog 23, k ≤ reachBytes) :
    ∃ ps : List ParV, ParsOf w w.heap.size v ps := by
  obtain ⟨l, hr, hl, ⟨A, c', e⟩, hlen⟩ := dec_slice (fun cs (a : ParV) => cs = a.cells ∧ a.Ok w w.heap.size) Try.underlying23 (by rw [cells_param]; omega) (fun n cs y hy hk => dec_param hy hk) h hwt
  rw [cells_param] at hr
  have hb : Try.prog.bytesOf 43 = 136 := by kernel_rfl
  rw [hb, reach47] at hlen
  have e2 : l.flatMap (·.1) = (l.map (·.2)).flatMap ParV.cells := by
    clear hr hlen e
    induction l with
    | nil => rfl
    | cons p l ih =>
      rw [List.flatMap_cons, (hl p (by simp)).1.1, ih (fun q hq => hl q (by simp [hq]))]
      simp
  rw [e2] at hr
  refine ⟨l.map (·.2), hr, Lib.hid (fun c hc => ?_), ⟨A, c', by simpa using e⟩, by simp; omega⟩
  obtain ⟨p, hp, rfl⟩ := List.mem_map.1 hc
  exact (hl p hp).1.2
/-- a param as an argument -/
structure ParArg (w : World) (v : Value) (p : ParV) : Prop where
  form : v = .agg #[p.wd, .int .i64 p.c.we, p.wx, p.mv, p.bd, .int .i64 p.c.be, p.bx]
  ok : p.Ok w w.heap.size
set_option maxRecDepth 100000 in
theorem open_paramP {v : Value} {d : DataW H} {p : List MemPlace} (hok : Value.okWide Try.prog w .any base 43 v) (h : DataW.Trod enc Try.prog w 0 (fun _ => true) true 43 v d p) (hwt : ∀ k ∈ d.weights Try.prog 43, k ≤ reachBytes) :
    ∃ t : ParV, ParArg w v t := by
  obtain ⟨cs, rfl, hcs⟩ := okWide_struct Try.underlying43 hok
  obtain ⟨fuel, hf⟩ := h
  obtain ⟨t, ht, hk⟩ := dec_param (cs := cs.toList) (by simpa [Value.cells] using hf) hwt
  refine ⟨t, ?_, hk⟩
  congr 1
  apply Array.toList_inj.1
  rw [ht]
  rfl
set_option maxRecDepth 100000 in
theorem open_stateP {v : Value} {d : DataW H} {p : List MemPlace} (hok : Value.okWide Try.prog w .any base 25 v) (h : DataW.Trod enc Try.prog w 0 (fun _ => true) true 25 v d p) (hwt : ∀ k ∈ d.weights Try.prog 25, k ≤ reachBytes) :
    ∃ t : StV, StOf w w.heap.size v t := by
  obtain ⟨cs, rfl, hcs⟩ := okWide_struct Try.underlying25 hok
  obtain ⟨fuel, hf⟩ := h
  have hf : DataW.trod enc Try.prog w 0 (fun _ => true) true fuel 25 cs.toList = some (d, p) := by simpa [Value.cells] using hf
  obtain ⟨xs, m, rfl, e0, hlen, hxl, hf⟩ := DataW.trod_struct Try.underlying25 hf
  rw [cells_state] at hlen
  obtain ⟨cs⟩ := cs
  simp only at hlen hf
  match cs, hlen with
  | [c0, c1, c2], _ =>
    match xs, hxl with
    | [x0, x1, x2], _ =>
      injection e0 with e0 e1
      subst e0
      have h0 : DataW.trod enc Try.prog w 0 (fun _ => true) true m 22 [c0] = some x0 := by
        have h := hf 0 _ rfl
        simpa [cells_u64] using h
      have h1 : DataW.trod enc Try.prog w 0 (fun _ => true) true m 3 [c1] = some x1 := by
        have h := hf 1 _ rfl
        simpa [cells_int, cells_u64] using h
      have h2 : DataW.trod enc Try.prog w 0 (fun _ => true) true m 23 [c2] = some x2 := by
        have h := hf 2 _ rfl
        simpa [cells_params, cells_int, cells_u64] using h
      obtain ⟨ps, hps⟩ := dec_params h2 (fun k hk => hwt k (by
        simp only [DataW.weights, Try.underlying25]
        exact weights_part (j := 2) (t := 23) (d := x2.1) rfl rfl k hk))
      obtain ⟨a, ea, _, wa⟩ := DataW.trod_int Try.underlying22 h0
      obtain ⟨b, eb, _, wb⟩ := DataW.trod_int Try.underlying3 h1
      simp only [List.cons.injEq, and_true] at ea eb
      subst ea eb
      have hwb := wf_i64 wb
      have hwa : 0 ≤ a ∧ a < 18446744073709551616 := by
        have hb : 0 ≤ a ∧ a ≤ 18446744073709551615 := by simpa [Lit.wf, IntKind.min, IntKind.max, IntKind.signed, IntKind.bits] using wa
        omega
      exact ⟨⟨a, b, c2, ps⟩, rfl, hwa, hwb, hps⟩
theorem dec_byte {n : Nat} {cs : List Value} {y : DataW H × List MemPlace} (h : DataW.trod enc Try.prog w base spare held n 5 cs = some y) (_ : ∀ k ∈ y.1.weights Try.prog 5, k ≤ reachBytes) :
    ∃ a : UInt8, cs = [.int .u8 (a.toNat : Int)] := by
  obtain ⟨m, rfl, rfl, hw⟩ := DataW.trod_int Try.underlying5 h
  have hb : 0 ≤ m ∧ m ≤ 255 := by simpa [Lit.wf, IntKind.min, IntKind.max, IntKind.signed, IntKind.bits] using hw
  refine ⟨UInt8.ofNat m.toNat, ?_⟩
  have : (UInt8.ofNat m.toNat).toNat = m.toNat := by simp; omega
  rw [this]
  congr 2
  omega
theorem cells_byte : Try.prog.cellsOf 5 = 1 := by kernel_rfl
theorem bytes_byte : Try.prog.bytesOf 5 = 1 := by kernel_rfl
/-- a slice of bytes, as its one cell -/
theorem dec_bytes {fuel : Nat} {v : Value} {x : DataW H × List MemPlace} (h : DataW.trod enc Try.prog w base spare held fuel 27 [v] = some x) (hwt : ∀ k ∈ x.1.weights Try.prog 27, k ≤ reachBytes) :
    ∃ bs : List UInt8, Reads w w.heap.size v (bytesV bs) ∧ bs.length ≤ 140737488351232 := by
  obtain ⟨l, hr, hl, hform, hlen⟩ := dec_slice (fun cs (a : UInt8) => cs = [.int .u8 (a.toNat : Int)]) Try.underlying27 (by rw [cells_byte]; omega) (fun n cs y hy hk => dec_byte hy hk) h hwt
  rw [cells_byte] at hr
  rw [bytes_byte, reach47] at hlen
  have e : l.flatMap (·.1) = bytesV (l.map (·.2)) := by
    clear hr hlen hform
    induction l with
    | nil => rfl
    | cons p l ih =>
      rw [List.flatMap_cons, (hl p (by simp)).1, ih (fun q hq => hl q (by simp [hq]))]
      simp [bytesV]
  rw [e] at hr
  exact ⟨l.map (·.2), hr.one, by simpa using hlen⟩
set_option maxRecDepth 100000 in
theorem open_bytesP {v : Value} {d : DataW H} {p : List MemPlace} (hok : Value.okWide Try.prog w .any base 27 v) (h : DataW.Trod enc Try.prog w 0 (fun _ => true) true 27 v d p) (hwt : ∀ k ∈ d.weights Try.prog 27, k ≤ reachBytes) :
    ∃ bs : List UInt8, Reads w w.heap.size v (bytesV bs) ∧ bs.length ≤ 140737488351232 := by
  obtain ⟨a, n, c, rfl⟩ := okWide_slice Try.underlying27 hok
  obtain ⟨fuel, hf⟩ := h
  exact dec_bytes (v := .slice a n c) (by simpa [Value.cells] using hf) hwt
end
end Go.Proofs.Ytcjpibdgnjncmaa
