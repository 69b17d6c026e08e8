/- Arguments opened: rows of lengths; tensors. -/
import Derived.Test.YtcjpibdgnjncmaaOpen
import Derived.Test.YtcjpibdgnjncmaaRows
import Derived.Test.YtcjpibdgnjncmaaTensor
namespace Go.Proofs.Ytcjpibdgnjncmaa
open Go.ChangeShapes Go.WideShapes Go.ChangeAt Go.RowKit Go.Deep
set_option linter.unusedVariables false
set_option linter.unusedSimpArgs false

section
variable {H : Type} {enc : TypeId × Value → H} {w : World} {base : Nat} {spare : Nat → Bool} {held : Bool}
theorem reach_of {ts : List TypeId} {ds : List (DataW H)} (h : (DataW.weightsEach Try.prog ts ds).all (· ≤ reachBytes) = true) {j : Nat} {t : TypeId} {d : DataW H} (ht : ts[j]? = some t) (hd : ds[j]? = some d) : ∀ k ∈ d.weights Try.prog t, k ≤ reachBytes := by
  intro k hk
  have := List.all_eq_true.1 h k (DataW.weights_mem_each ht hd k hk)
  simpa using this
theorem reach47 : reachBytes = 140737488351232 := by decide
theorem weights_part {P : Program} : ∀ {ts : List TypeId} {ds : List (DataW H)} {j : Nat} {t : TypeId} {d : DataW H}, ts[j]? = some t → ds[j]? = some d → ∀ n ∈ d.weights P t, n ∈ DataW.weightsEach P ts ds := @DataW.weights_mem_each H P

theorem wf_i64 {a : Int} (wa : (Lit.int .i64 a).wf = true) : -9223372036854775808 ≤ a ∧ a ≤ 9223372036854775807 := by
  simp only [Lit.wf, IntKind.min, IntKind.max, IntKind.signed, IntKind.bits, Bool.and_eq_true] at wa
  have h2 : (2:Int)^63 = 9223372036854775808 := by decide
  simp at wa
  omega
theorem wf_i8 {a : Int} (wa : (Lit.int .i8 a).wf = true) : -128 ≤ a ∧ a ≤ 127 := by
  simpa [Lit.wf, IntKind.min, IntKind.max, IntKind.signed, IntKind.bits] using wa
theorem flat_ints (k : IntKind) (R : Int → Prop) : ∀ l : List (List Value × Int), (∀ p ∈ l, (p.1 = [.int k p.2] ∧ R p.2) ∧ p.1.length = 1) → l.flatMap (·.1) = ints k (l.map (·.2)) ∧ ∀ x ∈ l.map (·.2), R x
  | [], _ => ⟨rfl, by simp⟩
  | p :: l, h => by
    have h1 := (h p (by simp)).1
    have h2 := flat_ints k R l (fun q hq => h q (by simp [hq]))
    refine ⟨?_, ?_⟩
    · rw [List.flatMap_cons, h1.1, h2.1]
      simp [ints]
    · intro x hx
      rw [List.map_cons] at hx
      rcases List.mem_cons.1 hx with rfl | hx
      · exact h1.2
      · exact h2.2 x hx
theorem cells_int : Try.prog.cellsOf 3 = 1 := by kernel_rfl
theorem bytes_int : Try.prog.bytesOf 3 = 8 := by kernel_rfl
theorem cells_ints : Try.prog.cellsOf 26 = 1 := by kernel_rfl
theorem dec_ints {fuel : Nat} {v : Value} {x : DataW H × List MemPlace} (h : DataW.trod enc Try.prog w base spare held fuel 26 [v] = some x) (hwt : ∀ k ∈ x.1.weights Try.prog 26, k ≤ reachBytes) :
    ∃ xs : List Int, Reads w w.heap.size v (ints .i64 xs) ∧ (∀ x ∈ xs, -9223372036854775808 ≤ x ∧ x ≤ 9223372036854775807) ∧ xs.length * 8 ≤ 140737488351232 := by
  obtain ⟨l, hr, hl, hform, hlen⟩ := dec_slice (fun cs (a : Int) => cs = [.int .i64 a] ∧ (-9223372036854775808 ≤ a ∧ a ≤ 9223372036854775807)) Try.underlying26 (by rw [cells_int]; omega) (fun n cs y hy hk => by
    obtain ⟨m, rfl, rfl, hw⟩ := DataW.trod_int Try.underlying3 hy
    exact ⟨m, rfl, wf_i64 hw⟩) h hwt
  rw [cells_int] at hr hl
  rw [bytes_int, reach47] at hlen
  obtain ⟨e, hb⟩ := flat_ints .i64 (fun a => -9223372036854775808 ≤ a ∧ a ≤ 9223372036854775807) l hl
  rw [e] at hr
  exact ⟨l.map (·.2), hr.one, hb, by simpa using hlen⟩
theorem cells_i8 : Try.prog.cellsOf 81 = 1 := by kernel_rfl
theorem bytes_i8 : Try.prog.bytesOf 81 = 1 := by kernel_rfl
theorem cells_i8s : Try.prog.cellsOf 38 = 1 := by kernel_rfl
theorem dec_i8s {fuel : Nat} {v : Value} {x : DataW H × List MemPlace} (h : DataW.trod enc Try.prog w base spare held fuel 38 [v] = some x) (hwt : ∀ k ∈ x.1.weights Try.prog 38, k ≤ reachBytes) :
    ∃ xs : List Int, Reads w w.heap.size v (ints .i8 xs) ∧ (∀ x ∈ xs, -128 ≤ x ∧ x ≤ 127) ∧ xs.length ≤ 140737488351232 := by
  obtain ⟨l, hr, hl, hform, hlen⟩ := dec_slice (fun cs (a : Int) => cs = [.int .i8 a] ∧ (-128 ≤ a ∧ a ≤ 127)) Try.underlying38 (by rw [cells_i8]; omega) (fun n cs y hy hk => by
    obtain ⟨m, rfl, rfl, hw⟩ := DataW.trod_int Try.underlying81 hy
    exact ⟨m, rfl, wf_i8 hw⟩) h hwt
  rw [cells_i8] at hr hl
  rw [bytes_i8, reach47] at hlen
  obtain ⟨e, hb⟩ := flat_ints .i8 (fun a => -128 ≤ a ∧ a ≤ 127) l hl
  rw [e] at hr
  exact ⟨l.map (·.2), hr.one, hb, by simpa using hlen⟩

/-- a row of lengths -/
structure IntsOf (w : World) (v : Value) (xs : List Int) : Prop where
  rd : Reads w w.heap.size v (ints .i64 xs)
  bd : Hid (∀ x ∈ xs, -9223372036854775808 ≤ x ∧ x ≤ 9223372036854775807)
  len : xs.length * 8 ≤ 140737488351232
set_option maxRecDepth 100000 in
theorem open_intsP {v : Value} {d : DataW H} {p : List MemPlace} (hok : Value.okWide Try.prog w .any base 26 v) (h : DataW.Trod enc Try.prog w 0 (fun _ => true) true 26 v d p) (hwt : ∀ k ∈ d.weights Try.prog 26, k ≤ reachBytes) :
    ∃ xs : List Int, IntsOf w v xs := by
  obtain ⟨a, n, c, rfl⟩ := okWide_slice Try.underlying26 hok
  obtain ⟨fuel, hf⟩ := h
  obtain ⟨xs, h1, h2, h3⟩ := dec_ints (v := .slice a n c) (by simpa [Value.cells] using hf) hwt
  exact ⟨xs, h1, Lib.hid h2, h3⟩

/-- a tensor's parts -/
structure TenV where
  dv : Value
  xv : Value
  dims : List Int
  exp : Int
  data : List Int
instance : Inhabited TenV := ⟨⟨undef, undef, [], 0, []⟩⟩
def TenV.cells (t : TenV) : List Value := [t.dv, .int .i64 t.exp, t.xv]
structure TenV.ok (w : World) (t : TenV) : Prop where
  isT : IsT w w.heap.size t.dv t.xv t.dims t.exp t.data
  ld : t.dims.length * 8 ≤ 140737488351232
  lx : t.data.length ≤ 140737488351232
theorem cells_tensor : Try.prog.cellsOf 40 = 3 := by kernel_rfl
set_option maxRecDepth 100000 in
theorem dec_tensor {n : Nat} {cs : List Value} {y : DataW H × List MemPlace} (h : DataW.trod enc Try.prog w base spare held n 40 cs = some y) (hwt : ∀ k ∈ y.1.weights Try.prog 40, k ≤ reachBytes) :
    ∃ a : TenV, cs = a.cells ∧ a.ok w := by
  obtain ⟨xs, m, rfl, rfl, hlen, hxl, hf⟩ := DataW.trod_struct Try.underlying40 h
  rw [cells_tensor] at hlen
  match cs, hlen with
  | [c0, c1, c2], _ =>
    match xs, hxl with
    | [x0, x1, x2], _ =>
      have h0 : DataW.trod enc Try.prog w base spare held m 26 [c0] = some x0 := by
        have h := hf 0 _ rfl
        simpa [cells_ints] using h
      have h1 : DataW.trod enc Try.prog w base spare held m 3 [c1] = some x1 := by
        have h := hf 1 _ rfl
        simpa [cells_int] using h
      have h2 : DataW.trod enc Try.prog w base spare held m 38 [c2] = some x2 := by
        have h := hf 2 _ rfl
        simpa [cells_i8s] using h
      obtain ⟨b, eb, rfl, wb⟩ := DataW.trod_int Try.underlying3 h1
      simp only [List.cons.injEq, and_true] at eb
      subst eb
      obtain ⟨ds, hd, hdb, hdl⟩ := dec_ints h0 (fun k hk => hwt k (by
        simp only [DataW.weights, Try.underlying40]
        exact weights_part (j := 0) (t := 26) (d := x0.1) rfl rfl k hk))
      obtain ⟨zs, hx, hxb, hxl⟩ := dec_i8s h2 (fun k hk => hwt k (by
        simp only [DataW.weights, Try.underlying40]
        exact weights_part (j := 2) (t := 38) (d := x2.1) rfl rfl k hk))
      have hb := wf_i64 wb
      exact ⟨⟨c0, c2, ds, b, zs⟩, rfl, ⟨hd, hx, Lib.hid hdb, Lib.hid hxb, hb.1, hb.2⟩, hdl, hxl⟩
def TenOf (w : World) (v : Value) (t : TenV) : Prop := v = .agg #[t.dv, .int .i64 t.exp, t.xv] ∧ t.ok w
set_option maxRecDepth 100000 in
theorem open_tensorP {v : Value} {d : DataW H} {p : List MemPlace} (hok : Value.okWide Try.prog w .any base 40 v) (h : DataW.Trod enc Try.prog w 0 (fun _ => true) true 40 v d p) (hwt : ∀ k ∈ d.weights Try.prog 40, k ≤ reachBytes) :
    ∃ t : TenV, TenOf w v t := by
  obtain ⟨cs, rfl, hcs⟩ := okWide_struct Try.underlying40 hok
  obtain ⟨fuel, hf⟩ := h
  obtain ⟨t, ht, hk⟩ := dec_tensor (cs := cs.toList) (by simpa [Value.cells] using hf) hwt
  refine ⟨t, ?_, hk⟩
  congr 1
  apply Array.toList_inj.1
  rw [ht]
  rfl
end
end Go.Proofs.Ytcjpibdgnjncmaa
