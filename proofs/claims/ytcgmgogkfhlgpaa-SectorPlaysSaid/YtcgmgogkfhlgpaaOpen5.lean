/- Arguments opened: calls of chapter 5. -/
import Derived.Test.YtcgmgogkfhlgpaaOpen3
import Derived.Test.YtcgmgogkfhlgpaaExtN
namespace Go.Proofs.Ytcgmgogkfhlgpaa
open Go.ChangeShapes Go.WideShapes Go.ChangeAt Go.RowKit Go.Deep
set_option linter.unusedVariables false
set_option linter.unusedSimpArgs false

/-- one call -/
structure CallV where
  dd : Int
  i : Int
  bv : Value
  raw : List UInt8
  x : UInt8
  odd : Bool
instance : Inhabited CallV := ⟨⟨0, 0, undef, [], 0, false⟩⟩
def CallV.cells (c : CallV) : List Value := [.int .i64 c.dd, .int .i64 c.i, c.bv, .int .u8 (c.x.toNat : Int), .bool c.odd]
def CallV.ok (w : World) (c : CallV) : Prop := (-9223372036854775808 ≤ c.dd ∧ c.dd ≤ 9223372036854775807) ∧ (-9223372036854775808 ≤ c.i ∧ c.i ≤ 9223372036854775807) ∧ Reads w w.heap.size c.bv (bytesV c.raw) ∧ c.raw.length ≤ 140737488351232
section
variable {H : Type} {enc : TypeId × Value → H} {w : World} {base : Nat} {spare : Nat → Bool} {held : Bool}
theorem wf_i64 {a : Int} (wa : (Lit.int .i64 a).wf = true) : -9223372036854775808 ≤ a ∧ a ≤ 9223372036854775807 := by
  simp only [Lit.wf, IntKind.min, IntKind.max, IntKind.signed, IntKind.bits, Bool.and_eq_true] at wa
  have h2 : (2:Int)^63 = 9223372036854775808 := by decide
  simp at wa
  omega
theorem cells_call : Try.prog.cellsOf 39 = 5 := by kernel_rfl
theorem cells_bytes : Try.prog.cellsOf 22 = 1 := by kernel_rfl
theorem cells_bool : Try.prog.cellsOf 4 = 1 := by kernel_rfl
theorem cells_int : Try.prog.cellsOf 3 = 1 := by kernel_rfl
theorem weights_part {P : Program} : ∀ {ts : List TypeId} {ds : List (DataW H)} {j : Nat} {t : TypeId} {d : DataW H}, ts[j]? = some t → ds[j]? = some d → ∀ n ∈ d.weights P t, n ∈ DataW.weightsEach P ts ds := @DataW.weights_mem_each H P
theorem dec_int1 {fuel : Nat} {v : Value} {x : DataW H × List MemPlace} (h : DataW.trod enc Try.prog w base spare held fuel 3 [v] = some x) : ∃ a : Int, v = .int .i64 a ∧ (-9223372036854775808 ≤ a ∧ a ≤ 9223372036854775807) := by
  obtain ⟨a, ea, rfl, wa⟩ := DataW.trod_int Try.underlying3 h
  simp only [List.cons.injEq, and_true] at ea
  exact ⟨a, ea, wf_i64 wa⟩
set_option maxRecDepth 100000 in
theorem dec_call {n : Nat} {cs : List Value} {y : DataW H × List MemPlace} (h : DataW.trod enc Try.prog w base spare held n 39 cs = some y) (hwt : ∀ k ∈ y.1.weights Try.prog 39, k ≤ reachBytes) :
    ∃ a : CallV, cs = a.cells ∧ a.ok w := by
  obtain ⟨xs, m, rfl, rfl, hlen, hxl, hf⟩ := DataW.trod_struct Try.underlying39 h
  rw [cells_call] at hlen
  match cs, hlen with
  | [c0, c1, c2, c3, c4], _ =>
    match xs, hxl with
    | [x0, x1, x2, x3, x4], _ =>
      have h0 : DataW.trod enc Try.prog w base spare held m 3 [c0] = some x0 := by
        have h := hf 0 _ rfl
        simpa [cells_int] using h
      have h1 : DataW.trod enc Try.prog w base spare held m 3 [c1] = some x1 := by
        have h := hf 1 _ rfl
        simpa [cells_int] using h
      have h2 : DataW.trod enc Try.prog w base spare held m 22 [c2] = some x2 := by
        have h := hf 2 _ rfl
        simpa [cells_bytes] using h
      have h3 : DataW.trod enc Try.prog w base spare held m 5 [c3] = some x3 := by
        have h := hf 3 _ rfl
        simpa [cells_byte] using h
      have h4 : DataW.trod enc Try.prog w base spare held m 4 [c4] = some x4 := by
        have h := hf 4 _ rfl
        simpa [cells_bool] using h
      obtain ⟨a0, rfl, w0⟩ := dec_int1 h0
      obtain ⟨a1, rfl, w1⟩ := dec_int1 h1
      obtain ⟨a3, e3⟩ := dec_byte h3 (fun k hk => hwt k (by
        simp only [DataW.weights, Try.underlying39]
        exact weights_part (j := 3) (t := 5) (d := x3.1) rfl rfl k hk))
      obtain ⟨b, eb, _⟩ := DataW.trod_bool Try.underlying4 h4
      simp only [List.cons.injEq, and_true] at eb e3
      subst eb e3
      obtain ⟨bs, hr, hl⟩ := dec_bytes h2 (fun k hk => hwt k (by
        simp only [DataW.weights, Try.underlying39]
        exact weights_part (j := 2) (t := 22) (d := x2.1) rfl rfl k hk))
      exact ⟨⟨a0, a1, c2, bs, a3, b⟩, rfl, w0, w1, hr, hl⟩
/-- the row of calls: its cells, and what they are -/
structure CallsOf (w : World) (v : Value) (l : List CallV) : Prop where
  rd : ReadsN 5 w w.heap.size v (l.flatMap CallV.cells)
  ok : Hid (∀ c ∈ l, c.ok w)
  form : ∃ A c, v = .slice A l.length c
  len : l.length ≤ 140737488351232
theorem open_calls5P {v : Value} {d : DataW H} {p : List MemPlace} (hok : Value.okWide Try.prog w .any base 35 v) (h : DataW.Trod enc Try.prog w 0 (fun _ => true) true 35 v d p) (hwt : ∀ k ∈ d.weights Try.prog 35, k ≤ reachBytes) :
    ∃ l : List CallV, CallsOf w v l := by
  obtain ⟨a, n, c, rfl⟩ := okWide_slice Try.underlying35 hok
  obtain ⟨fuel, hf⟩ := h
  obtain ⟨l, hr, hl, ⟨A, c', e⟩, hlen⟩ := dec_slice (v := .slice a n c) (fun cs (x : CallV) => cs = x.cells ∧ x.ok w) Try.underlying35 (by rw [cells_call]; omega) (fun n cs y hy hk => dec_call hy hk) (by simpa [Value.cells] using hf) hwt
  rw [cells_call] at hr
  have e2 : l.flatMap (·.1) = (l.map (·.2)).flatMap CallV.cells := by
    clear hr hlen e
    induction l with
    | nil => rfl
    | cons p l ih =>
      rw [List.flatMap_cons, (hl p (by simp)).1.1, ih (fun q hq => hl q (by simp [hq]))]
      simp
  rw [e2] at hr
  have hb : Try.prog.bytesOf 39 = 48 := by kernel_rfl
  rw [hb, reach47] at hlen
  refine ⟨l.map (·.2), hr, Lib.hid (fun c hc => ?_), ⟨A, c', by simpa using e⟩, by simp; omega⟩
  obtain ⟨p, hp, rfl⟩ := List.mem_map.1 hc
  exact (hl p hp).1.2
/-- one call by value -/
def CallOf (w : World) (v : Value) (c : CallV) : Prop := v = .agg c.cells.toArray ∧ c.ok w
theorem open_call5P {v : Value} {d : DataW H} {p : List MemPlace} (hok : Value.okWide Try.prog w .any base 39 v) (h : DataW.Trod enc Try.prog w 0 (fun _ => true) true 39 v d p) (hwt : ∀ k ∈ d.weights Try.prog 39, k ≤ reachBytes) :
    ∃ c : CallV, CallOf w v c := by
  obtain ⟨cs, rfl, hcs⟩ := okWide_struct Try.underlying39 hok
  obtain ⟨fuel, hf⟩ := h
  have hf : DataW.trod enc Try.prog w 0 (fun _ => true) true fuel 39 cs.toList = some (d, p) := by simpa [Value.cells] using hf
  obtain ⟨a, ha, hk⟩ := dec_call hf hwt
  exact ⟨a, by rw [← ha], hk⟩
/-- the kth -/
theorem CallsOf.at_ {v : Value} {l : List CallV} (h : CallsOf w v l) {k : Nat} (hk : k < l.length) :
    ∃ g o c e, v = .slice (some ⟨g, o, none⟩) l.length c ∧ l[k]? = some e ∧ e.ok w ∧ g < w.heap.size ∧
      (w.cell? ⟨g, o + k * 5, none⟩ = some (.int .i64 e.dd) ∧ w.cell? ⟨g, o + k * 5 + 1, none⟩ = some (.int .i64 e.i) ∧ w.cell? ⟨g, o + k * 5 + 2, none⟩ = some e.bv ∧ w.cell? ⟨g, o + k * 5 + 3, none⟩ = some (.int .u8 (e.x.toNat : Int)) ∧ w.cell? ⟨g, o + k * 5 + 4, none⟩ = some (.bool e.odd)) := by
  obtain ⟨A, n, c, e, hl, hc, hm, ha⟩ := h.rd
  obtain ⟨A', c', e'⟩ := h.form
  rw [e] at e'
  injection e' with e1 e2 e3
  subst e1 e2 e3
  obtain ⟨g, o, rfl, hg, hx⟩ := ha.out (by omega)
  have hlk : l[k]? = some l[k] := List.getElem?_eq_getElem hk
  have hfl : ∀ j, j < 5 → (l.flatMap CallV.cells)[k * 5 + j]? = (CallV.cells l[k])[j]? := fun j hj => flat_at CallV.cells 5 l (fun p _ => rfl) k j _ hlk hj
  have q := fun j (hj : j < 5) u (hu : (CallV.cells l[k])[j]? = some u) => hx (k * 5 + j) u ((hfl j hj).trans hu)
  exact ⟨g, o, c, l[k], e, hlk, h.ok.out _ (List.getElem_mem hk), hg, q 0 (by omega) _ rfl, q 1 (by omega) _ rfl, q 2 (by omega) _ rfl, q 3 (by omega) _ rfl, q 4 (by omega) _ rfl⟩
end
end Go.Proofs.Ytcgmgogkfhlgpaa
