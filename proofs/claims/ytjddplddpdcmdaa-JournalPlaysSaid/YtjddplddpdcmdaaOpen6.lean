/- Arguments opened: rows of bytes; calls of chapter 6. -/
import Derived.Test.YtjddplddpdcmdaaOpen3
import Derived.Test.YtjddplddpdcmdaaExtN
namespace Go.Proofs.Ytjddplddpdcmdaa
open Go.ChangeShapes Go.WideShapes Go.ChangeAt Go.RowKit Go.Deep
set_option linter.unusedVariables false
set_option linter.unusedSimpArgs false

section
variable {H : Type} {enc : TypeId × Value → H} {w : World} {base : Nat} {spare : Nat → Bool} {held : Bool}
theorem wf_i64' {a : Int} (wa : (Lit.int .i64 a).wf = true) : -9223372036854775808 ≤ a ∧ a ≤ 9223372036854775807 := by
  simp only [Lit.wf, IntKind.min, IntKind.max, IntKind.signed, IntKind.bits, Bool.and_eq_true] at wa
  have h2 : (2:Int)^63 = 9223372036854775808 := by decide
  simp at wa
  omega
theorem cells_bytesR : Try.prog.cellsOf 31 = 1 := by kernel_rfl
theorem cells_intR : Try.prog.cellsOf 3 = 1 := by kernel_rfl
theorem dec_row {n : Nat} {cs : List Value} {y : DataW H × List MemPlace} (h : DataW.trod enc Try.prog w base spare held n 31 cs = some y) (hwt : ∀ k ∈ y.1.weights Try.prog 31, k ≤ reachBytes) :
    ∃ a : Value × List UInt8, cs = [a.1] ∧ Reads w w.heap.size a.1 (bytesV a.2) ∧ a.2.length ≤ 140737488351232 := by
  have hcs : ∃ v, cs = [v] := by
    rcases open_slice Try.underlying31 h with ⟨hcs, _⟩ | ⟨a, len, cap, m, n, D, Pl, hcs, _⟩
    · exact ⟨_, hcs⟩
    · exact ⟨_, hcs⟩
  obtain ⟨v, rfl⟩ := hcs
  obtain ⟨bs, h1, h2⟩ := dec_bytes h hwt
  exact ⟨(v, bs), rfl, h1, h2⟩
/-- rows of bytes -/
structure RowsOf (w : World) (v : Value) (l : List (Value × List UInt8)) : Prop where
  rd : ReadsN 1 w w.heap.size v (l.map (·.1))
  ok : Hid (∀ c ∈ l, Reads w w.heap.size c.1 (bytesV c.2) ∧ c.2.length ≤ 140737488351232)
  form : ∃ A c, v = .slice A l.length c
  len : l.length ≤ 140737488351232
theorem open_rowsP {v : Value} {d : DataW H} {p : List MemPlace} (hok : Value.okWide Try.prog w .any base 22 v) (h : DataW.Trod enc Try.prog w 0 (fun _ => true) true 22 v d p) (hwt : ∀ k ∈ d.weights Try.prog 22, k ≤ reachBytes) :
    ∃ l : List (Value × List UInt8), RowsOf w v l := by
  obtain ⟨a, n, c, rfl⟩ := okWide_slice Try.underlying22 hok
  obtain ⟨fuel, hf⟩ := h
  obtain ⟨l, hr, hl, ⟨A, c', e⟩, hlen⟩ := dec_slice (v := .slice a n c) (fun cs (x : Value × List UInt8) => cs = [x.1] ∧ Reads w w.heap.size x.1 (bytesV x.2) ∧ x.2.length ≤ 140737488351232) Try.underlying22 (by rw [cells_bytesR]; omega) (fun n cs y hy hk => dec_row hy hk) (by simpa [Value.cells] using hf) hwt
  rw [cells_bytesR] at hr
  have e2 : l.flatMap (·.1) = (l.map (·.2)).map (·.1) := by
    clear hr hlen e
    induction l with
    | nil => rfl
    | cons p l ih =>
      rw [List.flatMap_cons, (hl p (by simp)).1.1, ih (fun q hq => hl q (by simp [hq]))]
      simp
  rw [e2] at hr
  have hb : Try.prog.bytesOf 31 = 24 := by kernel_rfl
  rw [hb, reach47] at hlen
  refine ⟨l.map (·.2), hr, Lib.hid (fun c hc => ?_), ⟨A, c', by simpa using e⟩, by simp; omega⟩
  obtain ⟨p, hp, rfl⟩ := List.mem_map.1 hc
  exact (hl p hp).1.2
theorem RowsOf.at_ {v : Value} {l : List (Value × List UInt8)} (h : RowsOf w v l) {k : Nat} (hk : k < l.length) :
    ∃ g o c e, v = .slice (some ⟨g, o, none⟩) l.length c ∧ l[k]? = some e ∧ (Reads w w.heap.size e.1 (bytesV e.2) ∧ e.2.length ≤ 140737488351232) ∧ g < w.heap.size ∧ w.cell? ⟨g, o + k, none⟩ = some e.1 := by
  obtain ⟨A, n, c, e, hl, hc, hm, ha⟩ := h.rd
  obtain ⟨A', c', e'⟩ := h.form
  rw [e] at e'
  injection e' with e1 e2 e3
  subst e1 e3 e2
  obtain ⟨g, o, rfl, hg, hx⟩ := ha.out (by omega)
  refine ⟨g, o, c, l[k], e, List.getElem?_eq_getElem hk, h.ok.out _ (List.getElem_mem hk), hg, hx k _ ?_⟩
  rw [List.getElem?_map, List.getElem?_eq_getElem hk]
  rfl
/-- one call -/
structure Call6 where
  dd : Int
  n : Int
  bv : Value
  raw : List UInt8
instance : Inhabited Call6 := ⟨⟨0, 0, undef, []⟩⟩
def Call6.cells (c : Call6) : List Value := [.int .i64 c.dd, .int .i64 c.n, c.bv]
def Call6.ok (w : World) (c : Call6) : Prop := (-9223372036854775808 ≤ c.dd ∧ c.dd ≤ 9223372036854775807) ∧ (-9223372036854775808 ≤ c.n ∧ c.n ≤ 9223372036854775807) ∧ Reads w w.heap.size c.bv (bytesV c.raw) ∧ c.raw.length ≤ 140737488351232
theorem cells_call6 : Try.prog.cellsOf 48 = 3 := by kernel_rfl
theorem weights_part6 {P : Program} : ∀ {ts : List TypeId} {ds : List (DataW H)} {j : Nat} {t : TypeId} {d : DataW H}, ts[j]? = some t → ds[j]? = some d → ∀ n ∈ d.weights P t, n ∈ DataW.weightsEach P ts ds := @DataW.weights_mem_each H P
theorem dec_int6 {fuel : Nat} {v : Value} {x : DataW H × List MemPlace} (h : DataW.trod enc Try.prog w base spare held fuel 3 [v] = some x) : ∃ a : Int, v = .int .i64 a ∧ (-9223372036854775808 ≤ a ∧ a ≤ 9223372036854775807) := by
  obtain ⟨a, ea, rfl, wa⟩ := DataW.trod_int Try.underlying3 h
  simp only [List.cons.injEq, and_true] at ea
  exact ⟨a, ea, wf_i64' wa⟩
set_option maxRecDepth 100000 in
theorem dec_call6 {n : Nat} {cs : List Value} {y : DataW H × List MemPlace} (h : DataW.trod enc Try.prog w base spare held n 48 cs = some y) (hwt : ∀ k ∈ y.1.weights Try.prog 48, k ≤ reachBytes) :
    ∃ a : Call6, cs = a.cells ∧ a.ok w := by
  obtain ⟨xs, m, rfl, rfl, hlen, hxl, hf⟩ := DataW.trod_struct Try.underlying48 h
  rw [cells_call6] at hlen
  match cs, hlen with
  | [c0, c1, c2], _ =>
    match xs, hxl with
    | [x0, x1, x2], _ =>
      have h0 : DataW.trod enc Try.prog w base spare held m 3 [c0] = some x0 := by
        have h := hf 0 _ rfl
        simpa [cells_intR] using h
      have h1 : DataW.trod enc Try.prog w base spare held m 3 [c1] = some x1 := by
        have h := hf 1 _ rfl
        simpa [cells_intR] using h
      have h2 : DataW.trod enc Try.prog w base spare held m 31 [c2] = some x2 := by
        have h := hf 2 _ rfl
        simpa [cells_bytesR] using h
      obtain ⟨a0, rfl, w0⟩ := dec_int6 h0
      obtain ⟨a1, rfl, w1⟩ := dec_int6 h1
      obtain ⟨bs, hr, hl⟩ := dec_bytes h2 (fun k hk => hwt k (by
        simp only [DataW.weights, Try.underlying48]
        exact weights_part6 (j := 2) (t := 31) (d := x2.1) rfl rfl k hk))
      exact ⟨⟨a0, a1, c2, bs⟩, rfl, w0, w1, hr, hl⟩
/-- the row of calls: its cells, and what they are -/
structure Calls6Of (w : World) (v : Value) (l : List Call6) : Prop where
  rd : ReadsN 3 w w.heap.size v (l.flatMap Call6.cells)
  ok : Hid (∀ c ∈ l, c.ok w)
  form : ∃ A c, v = .slice A l.length c
  len : l.length ≤ 140737488351232
theorem open_calls6P {v : Value} {d : DataW H} {p : List MemPlace} (hok : Value.okWide Try.prog w .any base 46 v) (h : DataW.Trod enc Try.prog w 0 (fun _ => true) true 46 v d p) (hwt : ∀ k ∈ d.weights Try.prog 46, k ≤ reachBytes) :
    ∃ l : List Call6, Calls6Of w v l := by
  obtain ⟨a, n, c, rfl⟩ := okWide_slice Try.underlying46 hok
  obtain ⟨fuel, hf⟩ := h
  obtain ⟨l, hr, hl, ⟨A, c', e⟩, hlen⟩ := dec_slice (v := .slice a n c) (fun cs (x : Call6) => cs = x.cells ∧ x.ok w) Try.underlying46 (by rw [cells_call6]; omega) (fun n cs y hy hk => dec_call6 hy hk) (by simpa [Value.cells] using hf) hwt
  rw [cells_call6] at hr
  have e2 : l.flatMap (·.1) = (l.map (·.2)).flatMap Call6.cells := by
    clear hr hlen e
    induction l with
    | nil => rfl
    | cons p l ih =>
      rw [List.flatMap_cons, (hl p (by simp)).1.1, ih (fun q hq => hl q (by simp [hq]))]
      simp
  rw [e2] at hr
  have hb : Try.prog.bytesOf 48 = 40 := by kernel_rfl
  rw [hb, reach47] at hlen
  refine ⟨l.map (·.2), hr, Lib.hid (fun c hc => ?_), ⟨A, c', by simpa using e⟩, by simp; omega⟩
  obtain ⟨p, hp, rfl⟩ := List.mem_map.1 hc
  exact (hl p hp).1.2
theorem Calls6Of.at_ {v : Value} {l : List Call6} (h : Calls6Of w v l) {k : Nat} (hk : k < l.length) :
    ∃ g o c e, v = .slice (some ⟨g, o, none⟩) l.length c ∧ l[k]? = some e ∧ e.ok w ∧ g < w.heap.size ∧
      (w.cell? ⟨g, o + k * 3, none⟩ = some (.int .i64 e.dd) ∧ w.cell? ⟨g, o + k * 3 + 1, none⟩ = some (.int .i64 e.n) ∧ w.cell? ⟨g, o + k * 3 + 2, none⟩ = some e.bv) := by
  obtain ⟨A, n, c, e, hl, hc, hm, ha⟩ := h.rd
  obtain ⟨A', c', e'⟩ := h.form
  rw [e] at e'
  injection e' with e1 e2 e3
  subst e1 e3 e2
  obtain ⟨g, o, rfl, hg, hx⟩ := ha.out (by omega)
  have hlk : l[k]? = some l[k] := List.getElem?_eq_getElem hk
  have hfl : ∀ j, j < 3 → (l.flatMap Call6.cells)[k * 3 + j]? = (Call6.cells l[k])[j]? := fun j hj => flat_at Call6.cells 3 l (fun p _ => rfl) k j _ hlk hj
  have hx3 : ∀ i u, (l[k].cells)[i]? = some u → w.cell? ⟨g, o + (k * 3 + i), none⟩ = some u := fun i u hu => hx _ _ ((hfl i (by have := (List.getElem?_eq_some_iff.1 hu).1; simpa [Call6.cells] using this)).trans hu)
  exact ⟨g, o, c, l[k], e, List.getElem?_eq_getElem hk, h.ok.out _ (List.getElem_mem hk), hg, hx3 0 _ rfl, hx3 1 _ rfl, hx3 2 _ rfl⟩
end
end Go.Proofs.Ytjddplddpdcmdaa
