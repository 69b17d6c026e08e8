/- Datasets in memory; arguments opened. -/
import Derived.Test.YtfhlailhcfjjaaaDataPlain
import Derived.Test.YtfhlailhcfjjaaaExtN
import Derived.Test.YtfhlailhcfjjaaaOpen3
import Derived.BigQuiet
import Derived.Deep.QuietTactic
namespace Go.Proofs.Ytfhlailhcfjjaaa
open Go.ChangeShapes Go.WideShapes Go.ChangeAt Go.RowKit Go.Deep
set_option linter.unusedVariables false
set_option linter.unusedSimpArgs false

def ExV.cells (e : ExV) : List Value := [e.dv, .int .i64 e.label]
def inW (x : Int) : Prop := -9223372036854775808 ≤ x ∧ x ≤ 9223372036854775807
structure ExV.Ok (w : World) (B : Nat) (e : ExV) : Prop where
  rd : Reads w B e.dv (ints .i8 e.data)
  label : inW e.label
  data : ∀ x ∈ e.data, -128 ≤ x ∧ x ≤ 127
  len : e.data.length ≤ 140737488351232
/-- a row of examples -/
structure ExsOf (w : World) (B : Nat) (v : Value) (xs : List ExV) : Prop where
  rd : ReadsN 2 w B v (xs.flatMap ExV.cells)
  ok : Hid (∀ e ∈ xs, e.Ok w B)
  form : ∃ A c, v = .slice A xs.length c
  len : xs.length ≤ 140737488351232
/-- a dataset by value -/
structure DataOf (w : World) (B : Nat) (v : Value) (d : DatV) : Prop where
  form : v = .agg #[.int .i64 d.a, .int .i64 d.b, .int .i64 d.c, .int .i64 d.exp, .int .i64 d.cl, d.lv]
  wa : inW d.a ∧ inW d.b ∧ inW d.c ∧ inW d.exp ∧ inW d.cl
  xs : ExsOf w B d.lv d.xs
section
variable {w w' : World} {B B' : Nat} {v : Value} {xs : List ExV} {d : DatV}
theorem ExV.Ok.below {e : ExV} (h : e.Ok w B) (hb : Below B w w') : e.Ok w' B := ⟨h.rd.below hb, h.label, h.data, h.len⟩
theorem ExsOf.below (h : ExsOf w B v xs) (hb : Below B w w') : ExsOf w' B v xs := ⟨h.rd.below hb, Lib.hid (fun e he => (h.ok.out e he).below hb), h.form, h.len⟩
theorem ExsOf.more (h : ExsOf w B v xs) (hB : B ≤ B') : ExsOf w B' v xs := ⟨h.rd.more hB, Lib.hid (fun e he => ⟨(h.ok.out e he).rd.more hB, (h.ok.out e he).label, (h.ok.out e he).data, (h.ok.out e he).len⟩), h.form, h.len⟩
theorem DataOf.below (h : DataOf w B v d) (hb : Below B w w') : DataOf w' B v d := ⟨h.form, h.wa, h.xs.below hb⟩
theorem DataOf.more (h : DataOf w B v d) (hB : B ≤ B') : DataOf w B' v d := ⟨h.form, h.wa, h.xs.more hB⟩
theorem ExsOf.at_ (h : ExsOf w B v xs) {k : Nat} (hk : k < xs.length) :
    ∃ g o c e, v = .slice (some ⟨g, o, none⟩) xs.length c ∧ xs[k]? = some e ∧ e.Ok w B ∧ g < B ∧ w.cell? ⟨g, o + k * 2, none⟩ = some e.dv ∧ w.cell? ⟨g, o + k * 2 + 1, none⟩ = some (.int .i64 e.label) := by
  obtain ⟨A, n, c, e, hl, hc, hm, ha⟩ := h.rd
  obtain ⟨A', c', e'⟩ := h.form
  rw [e] at e'
  injection e' with e1 e2 e3
  subst e1 e2 e3
  obtain ⟨g, o, rfl, hg, hx⟩ := ha.out (by omega)
  have hlk : xs[k]? = some xs[k] := List.getElem?_eq_getElem hk
  have hfl : ∀ j, j < 2 → (xs.flatMap ExV.cells)[k * 2 + j]? = (ExV.cells xs[k])[j]? := fun j hj => flat_at ExV.cells 2 xs (fun p _ => rfl) k j _ hlk hj
  have q := fun j (hj : j < 2) u (hu : (ExV.cells xs[k])[j]? = some u) => hx (k * 2 + j) u ((hfl j hj).trans hu)
  exact ⟨g, o, c, xs[k], e, hlk, h.ok.out _ (List.getElem_mem hk), hg, q 0 (by omega) _ rfl, q 1 (by omega) _ rfl⟩
end
section
variable {H : Type} {enc : TypeId × Value → H} {w : World} {base : Nat} {spare : Nat → Bool} {held : Bool}
theorem wf_int {a : Int} (wa : (Lit.int .i64 a).wf = true) : inW a := by
  simp only [Lit.wf, IntKind.min, IntKind.max, IntKind.signed, IntKind.bits, Bool.and_eq_true] at wa
  have h2 : (2:Int)^63 = 9223372036854775808 := by decide
  simp at wa
  unfold inW
  omega
theorem weights_part {P : Program} : ∀ {ts : List TypeId} {ds : List (DataW H)} {j : Nat} {t : TypeId} {d : DataW H}, ts[j]? = some t → ds[j]? = some d → ∀ n ∈ d.weights P t, n ∈ DataW.weightsEach P ts ds := @DataW.weights_mem_each H P
theorem cells_int : Try.prog.cellsOf 3 = 1 := by kernel_rfl
theorem cells_i8 : Try.prog.cellsOf 52 = 1 := by kernel_rfl
theorem bytes_i8 : Try.prog.bytesOf 52 = 1 := by kernel_rfl
theorem cells_i8s : Try.prog.cellsOf 43 = 1 := by kernel_rfl
theorem cells_ex : Try.prog.cellsOf 45 = 2 := by kernel_rfl
theorem cells_exs : Try.prog.cellsOf 31 = 1 := by kernel_rfl
theorem cells_in : Try.prog.cellsOf 30 = 3 := by kernel_rfl
theorem cells_dat : Try.prog.cellsOf 33 = 6 := by kernel_rfl
theorem dec_int1 {fuel : Nat} {v : Value} {x : DataW H × List MemPlace} (h : DataW.trod enc Try.prog w base spare held fuel 3 [v] = some x) : ∃ a : Int, v = .int .i64 a ∧ inW a := by
  obtain ⟨a, ea, rfl, wa⟩ := DataW.trod_int Try.underlying3 h
  simp only [List.cons.injEq, and_true] at ea
  exact ⟨a, ea, wf_int wa⟩
theorem dec_i8 {n : Nat} {cs : List Value} {y : DataW H × List MemPlace} (h : DataW.trod enc Try.prog w base spare held n 52 cs = some y) (_ : ∀ k ∈ y.1.weights Try.prog 52, k ≤ reachBytes) :
    ∃ a : Int, cs = [.int .i8 a] ∧ -128 ≤ a ∧ a ≤ 127 := by
  obtain ⟨m, rfl, rfl, hw⟩ := DataW.trod_int Try.underlying52 h
  have hb : -128 ≤ m ∧ m ≤ 127 := by simpa [Lit.wf, IntKind.min, IntKind.max, IntKind.signed, IntKind.bits] using hw
  exact ⟨m, rfl, hb.1, hb.2⟩
theorem dec_i8s {fuel : Nat} {v : Value} {x : DataW H × List MemPlace} (h : DataW.trod enc Try.prog w base spare held fuel 43 [v] = some x) (hwt : ∀ k ∈ x.1.weights Try.prog 43, k ≤ reachBytes) :
    ∃ ns : List Int, Reads w w.heap.size v (ints .i8 ns) ∧ (∀ x ∈ ns, -128 ≤ x ∧ x ≤ 127) ∧ ns.length ≤ 140737488351232 := by
  obtain ⟨l, hr, hl, hform, hlen⟩ := dec_slice (fun cs (a : Int) => cs = [.int .i8 a] ∧ -128 ≤ a ∧ a ≤ 127) Try.underlying43 (by rw [cells_i8]; omega) (fun n cs y hy hk => dec_i8 hy hk) h hwt
  rw [cells_i8] at hr
  rw [bytes_i8, reach47] at hlen
  have e : l.flatMap (·.1) = ints .i8 (l.map (·.2)) := by
    clear hr hlen hform
    induction l with
    | nil => rfl
    | cons p l ih =>
      rw [List.flatMap_cons, (hl p (by simp)).1.1, ih (fun q hq => hl q (by simp [hq]))]
      simp [ints]
  rw [e] at hr
  refine ⟨l.map (·.2), hr.one, fun x hx => ?_, by simpa using hlen⟩
  obtain ⟨p, hp, rfl⟩ := List.mem_map.1 hx
  exact (hl p hp).1.2
set_option maxRecDepth 100000 in
theorem dec_ex {n : Nat} {cs : List Value} {y : DataW H × List MemPlace} (h : DataW.trod enc Try.prog w base spare held n 45 cs = some y) (hwt : ∀ k ∈ y.1.weights Try.prog 45, k ≤ reachBytes) :
    ∃ a : ExV, cs = a.cells ∧ a.Ok w w.heap.size := by
  obtain ⟨xs, m, rfl, rfl, hlen, hxl, hf⟩ := DataW.trod_struct Try.underlying45 h
  rw [cells_ex] at hlen
  match cs, hlen with
  | [c0, c1], _ =>
    match xs, hxl with
    | [x0, x1], _ =>
      have h0 : DataW.trod enc Try.prog w base spare held m 43 [c0] = some x0 := by
        have h := hf 0 _ rfl
        simpa [cells_i8s] using h
      have h1 : DataW.trod enc Try.prog w base spare held m 3 [c1] = some x1 := by
        have h := hf 1 _ rfl
        simpa [cells_int] using h
      obtain ⟨a1, rfl, w1⟩ := dec_int1 h1
      obtain ⟨ns, hr, hb, hl⟩ := dec_i8s h0 (fun k hk => hwt k (by
        simp only [DataW.weights, Try.underlying45]
        exact weights_part (j := 0) (t := 43) (d := x0.1) rfl rfl k hk))
      exact ⟨⟨c0, ns, a1⟩, rfl, hr, w1, hb, hl⟩
theorem dec_exs {fuel : Nat} {v : Value} {x : DataW H × List MemPlace} (h : DataW.trod enc Try.prog w base spare held fuel 31 [v] = some x) (hwt : ∀ k ∈ x.1.weights Try.prog 31, k ≤ reachBytes) :
    ∃ xs : List ExV, ExsOf w w.heap.size v xs := by
  obtain ⟨l, hr, hl, ⟨A, c', e⟩, hlen⟩ := dec_slice (fun cs (a : ExV) => cs = a.cells ∧ a.Ok w w.heap.size) Try.underlying31 (by rw [cells_ex]; omega) (fun n cs y hy hk => dec_ex hy hk) h hwt
  rw [cells_ex] at hr
  have hb : Try.prog.bytesOf 45 = 32 := by kernel_rfl
  rw [hb, reach47] at hlen
  have e2 : l.flatMap (·.1) = (l.map (·.2)).flatMap ExV.cells := by
    clear hr hlen e
    induction l with
    | nil => rfl
    | cons p l ih =>
      rw [List.flatMap_cons, (hl p (by simp)).1.1, ih (fun q hq => hl q (by simp [hq]))]
      simp
  rw [e2] at hr
  refine ⟨l.map (·.2), hr, Lib.hid (fun c hc => ?_), ⟨A, c', by simpa using e⟩, by simp; omega⟩
  obtain ⟨p, hp, rfl⟩ := List.mem_map.1 hc
  exact (hl p hp).1.2
set_option maxRecDepth 100000 in
theorem open_datasetP {v : Value} {d : DataW H} {p : List MemPlace} (hok : Value.okWide Try.prog w .any base 33 v) (h : DataW.Trod enc Try.prog w 0 (fun _ => true) true 33 v d p) (hwt : ∀ k ∈ d.weights Try.prog 33, k ≤ reachBytes) :
    ∃ t : DatV, DataOf w w.heap.size v t := by
  obtain ⟨cs, rfl, hcs⟩ := okWide_struct Try.underlying33 hok
  obtain ⟨fuel, hf⟩ := h
  have hf : DataW.trod enc Try.prog w 0 (fun _ => true) true fuel 33 cs.toList = some (d, p) := by simpa [Value.cells] using hf
  obtain ⟨xs, m, rfl, e0, hlen, hxl, hf⟩ := DataW.trod_struct Try.underlying33 hf
  rw [cells_dat] at hlen
  obtain ⟨cs⟩ := cs
  simp only at hlen hf
  match cs, hlen with
  | [c0, c1, c2, c3, c4, c5], _ =>
    match xs, hxl with
    | [x0, x1, x2, x3], _ =>
      injection e0 with e0 e1
      subst e0
      have h0 : DataW.trod enc Try.prog w 0 (fun _ => true) true m 30 [c0, c1, c2] = some x0 := by
        have h := hf 0 _ rfl
        simpa [cells_in] using h
      have h1 : DataW.trod enc Try.prog w 0 (fun _ => true) true m 3 [c3] = some x1 := by
        have h := hf 1 _ rfl
        simpa [cells_int] using h
      have h2 : DataW.trod enc Try.prog w 0 (fun _ => true) true m 3 [c4] = some x2 := by
        have h := hf 2 _ rfl
        simpa [cells_int] using h
      have h3 : DataW.trod enc Try.prog w 0 (fun _ => true) true m 31 [c5] = some x3 := by
        have h := hf 3 _ rfl
        simpa [cells_exs] using h
      obtain ⟨es, hes⟩ := dec_exs h3 (fun k hk => hwt k (by
        simp only [DataW.weights, Try.underlying33]
        exact weights_part (j := 3) (t := 31) (d := x3.1) rfl rfl k hk))
      obtain ⟨a3, rfl, w3⟩ := dec_int1 h1
      obtain ⟨a4, rfl, w4⟩ := dec_int1 h2
      obtain ⟨ys, m2, rfl, e2, hl2, hy2, hf2⟩ := DataW.trod_array Try.underlying30 h0
      match ys, hy2 with
      | [y0, y1, y2], _ =>
        have g0 : DataW.trod enc Try.prog w 0 (fun _ => true) true m2 3 [c0] = some y0 := by
          have h := hf2 0 (by omega)
          simpa [cells_int] using h
        have g1 : DataW.trod enc Try.prog w 0 (fun _ => true) true m2 3 [c1] = some y1 := by
          have h := hf2 1 (by omega)
          simpa [cells_int] using h
        have g2 : DataW.trod enc Try.prog w 0 (fun _ => true) true m2 3 [c2] = some y2 := by
          have h := hf2 2 (by omega)
          simpa [cells_int] using h
        obtain ⟨a0, rfl, w0⟩ := dec_int1 g0
        obtain ⟨a1, rfl, w1⟩ := dec_int1 g1
        obtain ⟨a2, rfl, w2⟩ := dec_int1 g2
        exact ⟨⟨a0, a1, a2, a3, a4, c5, es⟩, rfl, ⟨w0, w1, w2, w3, w4⟩, hes⟩
end
end Go.Proofs.Ytfhlailhcfjjaaa
