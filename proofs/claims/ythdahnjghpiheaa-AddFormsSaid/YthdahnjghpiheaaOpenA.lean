/- Arguments opened: rows of sums. -/
import Derived.Test.YthdahnjghpiheaaOpenT
import Derived.Test.YthdahnjghpiheaaAccP
namespace Go.Proofs.Ythdahnjghpiheaa
open Go.ChangeShapes Go.WideShapes Go.ChangeAt Go.RowKit Go.Deep
set_option linter.unusedVariables false

section
variable {H : Type} {enc : TypeId × Value → H} {w : World} {base : Nat} {spare : Nat → Bool} {held : Bool}
theorem wf_i32 {a : Int} (wa : (Lit.int .i32 a).wf = true) : -2147483648 ≤ a ∧ a ≤ 2147483647 := by
  simp only [Lit.wf, IntKind.min, IntKind.max, IntKind.signed, IntKind.bits, Bool.and_eq_true] at wa
  have h2 : (2:Int)^31 = 2147483648 := by decide
  simp at wa
  omega
theorem cells_i32 : Try.prog.cellsOf 21 = 1 := by kernel_rfl
theorem bytes_i32 : Try.prog.bytesOf 21 = 4 := by kernel_rfl
theorem cells_i32s : Try.prog.cellsOf 37 = 1 := by kernel_rfl
theorem dec_i32s {fuel : Nat} {v : Value} {x : DataW H × List MemPlace} (h : DataW.trod enc Try.prog w base spare held fuel 37 [v] = some x) (hwt : ∀ k ∈ x.1.weights Try.prog 37, k ≤ reachBytes) :
    ∃ xs : List Int, Reads w w.heap.size v (ints .i32 xs) ∧ (∀ x ∈ xs, -2147483648 ≤ x ∧ x ≤ 2147483647) ∧ xs.length * 4 ≤ 140737488351232 := by
  obtain ⟨l, hr, hl, hform, hlen⟩ := dec_slice (fun cs (a : Int) => cs = [.int .i32 a] ∧ (-2147483648 ≤ a ∧ a ≤ 2147483647)) Try.underlying37 (by rw [cells_i32]; omega) (fun n cs y hy hk => by
    obtain ⟨m, rfl, rfl, hw⟩ := DataW.trod_int Try.underlying21 hy
    exact ⟨m, rfl, wf_i32 hw⟩) h hwt
  rw [cells_i32] at hr hl
  rw [bytes_i32, reach47] at hlen
  obtain ⟨e, hb⟩ := flat_ints .i32 (fun a => -2147483648 ≤ a ∧ a ≤ 2147483647) l hl
  rw [e] at hr
  exact ⟨l.map (·.2), hr.one, hb, by simpa using hlen⟩

/-- a acc's parts -/
structure AccV where
  dv : Value
  xv : Value
  dims : List Int
  exp : Int
  data : List Int
instance : Inhabited AccV := ⟨⟨undef, undef, [], 0, []⟩⟩
def AccV.cells (t : AccV) : List Value := [t.dv, .int .i64 t.exp, t.xv]
structure AccV.ok (w : World) (t : AccV) : Prop where
  isA : IsA w w.heap.size t.dv t.xv t.dims t.exp t.data
  ld : t.dims.length * 8 ≤ 140737488351232
  lx : t.data.length * 4 ≤ 140737488351232
theorem cells_acc : Try.prog.cellsOf 39 = 3 := by kernel_rfl
theorem dec_acc {n : Nat} {cs : List Value} {y : DataW H × List MemPlace} (h : DataW.trod enc Try.prog w base spare held n 39 cs = some y) (hwt : ∀ k ∈ y.1.weights Try.prog 39, k ≤ reachBytes) :
    ∃ a : AccV, cs = a.cells ∧ a.ok w := by
  obtain ⟨xs, m, rfl, rfl, hlen, hxl, hf⟩ := DataW.trod_struct Try.underlying39 h
  rw [cells_acc] at hlen
  match cs, hlen with
  | [c0, c1, c2], _ =>
    match xs, hxl with
    | [x0, x1, x2], _ =>
      have h0 : DataW.trod enc Try.prog w base spare held m 22 [c0] = some x0 := by
        have h := hf 0 _ rfl
        simpa [cells_ints] using h
      have h1 : DataW.trod enc Try.prog w base spare held m 3 [c1] = some x1 := by
        have h := hf 1 _ rfl
        simpa [cells_int] using h
      have h2 : DataW.trod enc Try.prog w base spare held m 37 [c2] = some x2 := by
        have h := hf 2 _ rfl
        simpa [cells_i32s] using h
      obtain ⟨b, eb, rfl, wb⟩ := DataW.trod_int Try.underlying3 h1
      simp only [List.cons.injEq, and_true] at eb
      subst eb
      obtain ⟨ds, hd, hdb, hdl⟩ := dec_ints h0 (fun k hk => hwt k (by
        simp only [DataW.weights, Try.underlying39]
        exact weights_part (j := 0) (t := 22) (d := x0.1) rfl rfl k hk))
      obtain ⟨zs, hx, hxb, hxl⟩ := dec_i32s h2 (fun k hk => hwt k (by
        simp only [DataW.weights, Try.underlying39]
        exact weights_part (j := 2) (t := 37) (d := x2.1) rfl rfl k hk))
      have hb := wf_i64 wb
      exact ⟨⟨c0, c2, ds, b, zs⟩, rfl, ⟨hd, hx, Lib.hid hdb, Lib.hid hxb, hb.1, hb.2⟩, hdl, hxl⟩
def AccOf (w : World) (v : Value) (t : AccV) : Prop := v = .agg #[t.dv, .int .i64 t.exp, t.xv] ∧ t.ok w
theorem open_accP {v : Value} {d : DataW H} {p : List MemPlace} (hok : Value.okWide Try.prog w .any base 39 v) (h : DataW.Trod enc Try.prog w 0 (fun _ => true) true 39 v d p) (hwt : ∀ k ∈ d.weights Try.prog 39, k ≤ reachBytes) :
    ∃ t : AccV, AccOf w v t := by
  obtain ⟨cs, rfl, hcs⟩ := okWide_struct Try.underlying39 hok
  obtain ⟨fuel, hf⟩ := h
  obtain ⟨t, ht, hk⟩ := dec_acc (cs := cs.toList) (by simpa [Value.cells] using hf) hwt
  refine ⟨t, ?_, hk⟩
  congr 1
  apply Array.toList_inj.1
  rw [ht]
  rfl
end
end Go.Proofs.Ythdahnjghpiheaa
