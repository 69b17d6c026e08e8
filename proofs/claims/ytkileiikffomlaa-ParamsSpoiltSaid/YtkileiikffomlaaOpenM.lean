/- Arguments opened: nets. -/
import Derived.Test.YtkileiikffomlaaNetMay2
namespace Go.Proofs.Ytkileiikffomlaa
open Go.ChangeShapes Go.WideShapes Go.ChangeAt Go.RowKit Go.Deep
set_option linter.unusedVariables false
set_option linter.unusedSimpArgs false

section
variable {H : Type} {enc : TypeId × Value → H} {w : World} {base : Nat} {spare : Nat → Bool} {held : Bool}
theorem reach_of {ts : List TypeId} {ds : List (DataW H)} (h : (DataW.weightsEach Try.prog ts ds).all (· ≤ reachBytes) = true) {j : Nat} {t : TypeId} {d : DataW H} (ht : ts[j]? = some t) (hd : ds[j]? = some d) : ∀ k ∈ d.weights Try.prog t, k ≤ reachBytes := by
  intro k hk
  have := List.all_eq_true.1 h k (DataW.weights_mem_each ht hd k hk)
  simpa using this
theorem reach47 : reachBytes = 140737488351232 := by decide
theorem weights_part {P : Program} : ∀ {ts : List TypeId} {ds : List (DataW H)} {j : Nat} {t : TypeId} {d : DataW H}, ts[j]? = some t → ds[j]? = some d → ∀ n ∈ d.weights P t, n ∈ DataW.weightsEach P ts ds := @DataW.weights_mem_each H P
theorem wf_int {a : Int} (wa : (Lit.int .i64 a).wf = true) : inW a := by
  simp only [Lit.wf, IntKind.min, IntKind.max, IntKind.signed, IntKind.bits, Bool.and_eq_true] at wa
  have h2 : (2:Int)^63 = 9223372036854775808 := by decide
  simp at wa
  unfold inW
  omega
theorem cells_int : Try.prog.cellsOf 3 = 1 := by kernel_rfl
theorem cells_bool : Try.prog.cellsOf 4 = 1 := by kernel_rfl
theorem cells_layer : Try.prog.cellsOf 43 = 7 := by kernel_rfl
theorem cells_layers : Try.prog.cellsOf 23 = 1 := by kernel_rfl
theorem cells_in : Try.prog.cellsOf 22 = 3 := by kernel_rfl
theorem cells_model : Try.prog.cellsOf 25 = 4 := by kernel_rfl
theorem dec_int1 {fuel : Nat} {v : Value} {x : DataW H × List MemPlace} (h : DataW.trod enc Try.prog w base spare held fuel 3 [v] = some x) : ∃ a : Int, v = .int .i64 a ∧ inW a := by
  obtain ⟨a, ea, rfl, wa⟩ := DataW.trod_int Try.underlying3 h
  simp only [List.cons.injEq, and_true] at ea
  exact ⟨a, ea, wf_int wa⟩
set_option maxRecDepth 100000 in
theorem dec_layer {n : Nat} {cs : List Value} {y : DataW H × List MemPlace} (h : DataW.trod enc Try.prog w base spare held n 43 cs = some y) (_ : ∀ k ∈ y.1.weights Try.prog 43, k ≤ reachBytes) :
    ∃ a : LayV, cs = a.cells ∧ a.ok := by
  obtain ⟨xs, m, rfl, rfl, hlen, hxl, hf⟩ := DataW.trod_struct Try.underlying43 h
  rw [cells_layer] at hlen
  match cs, hlen with
  | [c0, c1, c2, c3, c4, c5, c6], _ =>
    match xs, hxl with
    | [x0, x1, x2, x3, x4, x5, x6], _ =>
      have h0 : DataW.trod enc Try.prog w base spare held m 3 [c0] = some x0 := by
        have h := hf 0 _ rfl
        simpa [cells_int] using h
      have h1 : DataW.trod enc Try.prog w base spare held m 3 [c1] = some x1 := by
        have h := hf 1 _ rfl
        simpa [cells_int] using h
      have h2 : DataW.trod enc Try.prog w base spare held m 3 [c2] = some x2 := by
        have h := hf 2 _ rfl
        simpa [cells_int] using h
      have h3 : DataW.trod enc Try.prog w base spare held m 3 [c3] = some x3 := by
        have h := hf 3 _ rfl
        simpa [cells_int] using h
      have h4 : DataW.trod enc Try.prog w base spare held m 3 [c4] = some x4 := by
        have h := hf 4 _ rfl
        simpa [cells_int] using h
      have h5 : DataW.trod enc Try.prog w base spare held m 3 [c5] = some x5 := by
        have h := hf 5 _ rfl
        simpa [cells_int] using h
      have h6 : DataW.trod enc Try.prog w base spare held m 4 [c6] = some x6 := by
        have h := hf 6 _ rfl
        simpa [cells_bool] using h
      obtain ⟨a0, rfl, w0⟩ := dec_int1 h0
      obtain ⟨a1, rfl, w1⟩ := dec_int1 h1
      obtain ⟨a2, rfl, w2⟩ := dec_int1 h2
      obtain ⟨a3, rfl, w3⟩ := dec_int1 h3
      obtain ⟨a4, rfl, w4⟩ := dec_int1 h4
      obtain ⟨a5, rfl, w5⟩ := dec_int1 h5
      obtain ⟨b, eb, _⟩ := DataW.trod_bool Try.underlying4 h6
      simp only [List.cons.injEq, and_true] at eb
      subst eb
      exact ⟨⟨a0, a1, a2, a3, a4, a5, b⟩, rfl, w0, w1, w2, w3, w4, w5⟩
theorem dec_layers {fuel : Nat} {v : Value} {x : DataW H × List MemPlace} (h : DataW.trod enc Try.prog w base spare held fuel 23 [v] = some x) (hwt : ∀ k ∈ x.1.weights Try.prog 23, k ≤ reachBytes) :
    ∃ ls : List LayV, LaysOf w w.heap.size v ls := by
  obtain ⟨l, hr, hl, ⟨A, c', e⟩, hlen⟩ := dec_slice (fun cs (a : LayV) => cs = a.cells ∧ a.ok) Try.underlying23 (by rw [cells_layer]; omega) (fun n cs y hy hk => dec_layer hy hk) h hwt
  rw [cells_layer] at hr
  have hb : Try.prog.bytesOf 43 = 56 := by kernel_rfl
  rw [hb, reach47] at hlen
  have e2 : l.flatMap (·.1) = (l.map (·.2)).flatMap LayV.cells := by
    clear hr hlen e
    induction l with
    | nil => rfl
    | cons p l ih =>
      rw [List.flatMap_cons, (hl p (by simp)).1.1, ih (fun q hq => hl q (by simp [hq]))]
      simp
  rw [e2] at hr
  refine ⟨l.map (·.2), hr, Lib.hid (fun c hc => ?_), ⟨A, c', by simpa using e⟩, by simp; omega⟩
  obtain ⟨p, hp, rfl⟩ := List.mem_map.1 hc
  exact (hl p hp).1.2
/-- a net's parts -/
structure NetV where
  a : Int
  b : Int
  c : Int
  lv : Value
  ls : List LayV
instance : Inhabited NetV := ⟨⟨0, 0, 0, undef, []⟩⟩
structure NetOf (w : World) (v : Value) (t : NetV) : Prop where
  form : v = .agg #[.int .i64 t.a, .int .i64 t.b, .int .i64 t.c, t.lv]
  wa : inW t.a
  wb : inW t.b
  wc : inW t.c
  lays : LaysOf w w.heap.size t.lv t.ls
set_option maxRecDepth 100000 in
theorem open_modelP {v : Value} {d : DataW H} {p : List MemPlace} (hok : Value.okWide Try.prog w .any base 25 v) (h : DataW.Trod enc Try.prog w 0 (fun _ => true) true 25 v d p) (hwt : ∀ k ∈ d.weights Try.prog 25, k ≤ reachBytes) :
    ∃ t : NetV, NetOf w v t := by
  obtain ⟨cs, rfl, hcs⟩ := okWide_struct Try.underlying25 hok
  obtain ⟨fuel, hf⟩ := h
  have hf : DataW.trod enc Try.prog w 0 (fun _ => true) true fuel 25 cs.toList = some (d, p) := by simpa [Value.cells] using hf
  obtain ⟨xs, m, rfl, e0, hlen, hxl, hf⟩ := DataW.trod_struct Try.underlying25 hf
  rw [cells_model] at hlen
  obtain ⟨cs⟩ := cs
  simp only at hlen hf
  match cs, hlen with
  | [c0, c1, c2, c3], _ =>
    match xs, hxl with
    | [x0, x1], _ =>
      injection e0 with e0 e1
      subst e0
      have h0 : DataW.trod enc Try.prog w 0 (fun _ => true) true m 22 [c0, c1, c2] = some x0 := by
        have h := hf 0 _ rfl
        simpa [cells_in] using h
      have h1 : DataW.trod enc Try.prog w 0 (fun _ => true) true m 23 [c3] = some x1 := by
        have h := hf 1 _ rfl
        simpa [cells_layers] using h
      obtain ⟨ls, hls⟩ := dec_layers h1 (fun k hk => hwt k (by
        simp only [DataW.weights, Try.underlying25]
        exact weights_part (j := 1) (t := 23) (d := x1.1) rfl rfl k hk))
      have h2 := DataW.trod_array Try.underlying22 h0
      obtain ⟨ys, m2, rfl, e2, hl2, hy2, hf2⟩ := h2
      match ys, hy2 with
      | [y0, y1, y2], _ =>
        have g0 : DataW.trod enc Try.prog w 0 (fun _ => true) true m2 3 [c0] = some y0 := by
          have h := hf2 0 (by omega)
          simpa [cells_int] using h
        have g1 : DataW.trod enc Try.prog w 0 (fun _ => true) true m2 3 [c1] = some y1 := by
          have h := hf2 1 (by omega)
          simpa [cells_int] using h
        have g2 : DataW.trod enc Try.prog w 0 (fun _ => true) true m2 3 [c2] = some y2 := by
          have h := hf2 2 (by omega)
          simpa [cells_int] using h
        obtain ⟨a0, rfl, w0⟩ := dec_int1 g0
        obtain ⟨a1, rfl, w1⟩ := dec_int1 g1
        obtain ⟨a2, rfl, w2⟩ := dec_int1 g2
        exact ⟨⟨a0, a1, a2, c3, ls⟩, rfl, w0, w1, w2, hls⟩
end
end Go.Proofs.Ytkileiikffomlaa
