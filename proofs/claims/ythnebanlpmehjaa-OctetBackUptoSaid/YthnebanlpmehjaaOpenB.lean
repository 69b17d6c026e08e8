/- Arguments opened, their bulk known: rows of calls of chapter 3. -/
import Derived.Test.YthnebanlpmehjaaOpen3
namespace Go.Proofs.Ythnebanlpmehjaa
open Go.ChangeShapes Go.WideShapes Go.ChangeAt Go.RowKit Go.Deep
set_option linter.unusedVariables false

section
variable {H : Type} {enc : TypeId × Value → H} {w : World} {base : Nat} {spare : Nat → Bool} {held : Bool}
theorem bulk_pos (d : DataW H) : 1 ≤ Rows.uptoBulk d := by
  cases d with
  | lit l => cases l <;> simp [Rows.uptoBulk]
  | nil => simp [Rows.uptoBulk]
  | ptr d => simp [Rows.uptoBulk]
  | slice elems spare => simp [Rows.uptoBulk]
  | agg parts => simp [Rows.uptoBulk]
  | iface t d => simp [Rows.uptoBulk]
  | map entries => simp [Rows.uptoBulk]
  | held h => simp [Rows.uptoBulk]
theorem bulk_part {d : DataW H} {l : List (DataW H)} (h : d ∈ l) : Rows.uptoBulk d ≤ Rows.uptoBulkAll l := by
  induction l with
  | nil => cases h
  | cons x r ih =>
    simp only [Rows.uptoBulkAll]
    cases List.mem_cons.1 h with
    | inl e => subst e; omega
    | inr e => have := ih e; omega
theorem bulk_sum {α : Type} (m : α → Nat) (f : Nat → α) (D : Nat → DataW H) : ∀ is : List Nat, (∀ i ∈ is, m (f i) ≤ Rows.uptoBulk (D i)) → ((is.map f).map m).sum ≤ Rows.uptoBulkAll (is.map D)
  | [], _ => by simp [Rows.uptoBulkAll]
  | i :: is, h => by
    simp only [List.map_cons, List.sum_cons, Rows.uptoBulkAll]
    have h1 := h i (by simp)
    have h2 := bulk_sum m f D is (fun j hj => h j (by simp [hj]))
    omega
theorem dec_sliceB {t e : TypeId} {fuel : Nat} {v : Value} {x : DataW H × List MemPlace} {α : Type} [Inhabited α] (R : List Value → α → Prop) (m : α → Nat) (ht : Try.prog.underlying t = some (.slice e)) (hsz : 0 < Try.prog.cellsOf e)
    (hel : ∀ (n : Nat) (cs : List Value) (y : DataW H × List MemPlace), DataW.trod enc Try.prog w base spare held n e cs = some y → (∀ k ∈ y.1.weights Try.prog e, k ≤ reachBytes) → ∃ a, R cs a ∧ m a ≤ Rows.uptoBulk y.1)
    (h : DataW.trod enc Try.prog w base spare held fuel t [v] = some x) (hwt : ∀ k ∈ x.1.weights Try.prog t, k ≤ reachBytes) :
    ∃ l : List (List Value × α), ReadsN (Try.prog.cellsOf e) w w.heap.size v (l.flatMap (·.1)) ∧ (∀ p ∈ l, R p.1 p.2 ∧ p.1.length = Try.prog.cellsOf e) ∧ (∃ A c, v = .slice A l.length c) ∧ l.length * Try.prog.bytesOf e ≤ reachBytes ∧
      (l.map (fun p => m p.2)).sum ≤ Rows.uptoBulk x.1 := by
  rcases open_slice ht h with ⟨hcs, hx⟩ | ⟨a, len, cap, mm, n, D, Pl, hcs, hb, hl, hm, hmm, hx, hi⟩
  · injection hcs with hcs
    subst hcs
    exact ⟨[], ⟨none, 0, 0, rfl, by simp, by omega, by unfold maxLen; omega, Lib.hid (fun hn => absurd hn (by omega))⟩, by simp, ⟨_, _, rfl⟩, by simp, by simp⟩
  · injection hcs with hcs
    subst hcs
    have hlm : len ≤ mm := by rw [hmm]; split <;> omega
    have hw2 : (len + (mm - len)) * Try.prog.bytesOf e ≤ reachBytes ∧ ∀ i, i < len → ∀ k ∈ (D i).weights Try.prog e, k ≤ reachBytes := by
      rw [hx] at hwt
      simp only [DataW.weights, ht, List.length_map, List.length_range, List.mem_cons, List.mem_append] at hwt
      refine ⟨hwt _ (.inl rfl), fun i hil k hk => hwt k (.inr (.inl (weights_elem (d := D i) ?_ k hk)))⟩
      exact List.mem_map.2 ⟨i, List.mem_range.2 hil, rfl⟩
    have hone : ∀ i, i < len → ∃ p : List Value × α, w.cells? base (a.add (i * Try.prog.cellsOf e)) (Try.prog.cellsOf e) = some p.1 ∧ R p.1 p.2 ∧ m p.2 ≤ Rows.uptoBulk (D i) := by
      intro i hil
      obtain ⟨cs', hc, ht'⟩ := hi i (by omega)
      obtain ⟨al, hal⟩ := hel n cs' _ ht' (hw2.2 i hil)
      exact ⟨(cs', al), hc, hal⟩
    obtain ⟨f, hf⟩ := choose_lt hone
    have hlen : ∀ i, i < len → (f i).1.length = Try.prog.cellsOf e := fun i hil => (World.cells?_some (hf i hil).1).2.1
    have hall : ∀ p ∈ (List.range len).map f, R p.1 p.2 ∧ p.1.length = Try.prog.cellsOf e := by
      intro p hp
      obtain ⟨i, hir, rfl⟩ := List.mem_map.1 hp
      have hil := List.mem_range.1 hir
      exact ⟨(hf i hil).2.1, hlen i hil⟩
    refine ⟨(List.range len).map f, ⟨some a, len, cap, rfl, ?_, hl, hm, Lib.hid (fun hn => ?_)⟩, hall, ⟨some a, cap, by simp⟩, ?_, ?_⟩
    · rw [flat_length (·.1) (Try.prog.cellsOf e) _ (fun p hp => (hall p hp).2)]; simp
    · have h0 := World.cells?_some (hf 0 hn).1
      have hc0 := h0.2.2 0 hsz
      rw [List.getElem?_eq_getElem (by omega)] at hc0
      obtain ⟨b, o, spot⟩ := a
      have hspot : spot = none := by simpa [Addr.add] using World.cell?_spot hc0
      subst hspot
      refine ⟨b, o, rfl, ?_, fun j u hu => ?_⟩
      · have := World.block_lt_of_cell? w _ hc0
        simpa [Addr.add] using this
      · obtain ⟨p, hp, hpu⟩ := flat_of (·.1) (Try.prog.cellsOf e) _ (fun p hp => (hall p hp).2) hsz j u hu
        rw [List.getElem?_map] at hp
        have hil : j / Try.prog.cellsOf e < len := by
          rcases Nat.lt_or_ge (j / Try.prog.cellsOf e) len with h1 | h1
          · exact h1
          · rw [List.getElem?_eq_none (by simpa using h1)] at hp; simp at hp
        rw [List.getElem?_range hil] at hp
        simp at hp
        subst hp
        have hc := (World.cells?_some (hf _ hil).1).2.2 (j % Try.prog.cellsOf e) (Nat.mod_lt _ hsz)
        rw [hpu, addr_add, addr_add] at hc
        rw [← hc]
        congr 2
        have := Nat.div_add_mod j (Try.prog.cellsOf e)
        rw [Nat.mul_comm] at this
        omega
    · simp only [List.length_map, List.length_range]
      have := hw2.1
      have h2 : len * Try.prog.bytesOf e ≤ (len + (mm - len)) * Try.prog.bytesOf e := Nat.mul_le_mul_right _ (by omega)
      omega
    · rw [hx]
      have := bulk_sum (fun p : List Value × α => m p.2) f D (List.range len) (fun i hir => (hf i (List.mem_range.1 hir)).2.2)
      simp only [Rows.uptoBulk]
      omega
theorem dec_bytesB {fuel : Nat} {v : Value} {x : DataW H × List MemPlace} (h : DataW.trod enc Try.prog w base spare held fuel 24 [v] = some x) (hwt : ∀ k ∈ x.1.weights Try.prog 24, k ≤ reachBytes) :
    ∃ bs : List UInt8, Reads w w.heap.size v (bytesV bs) ∧ bs.length ≤ 140737488351232 ∧ bs.length ≤ Rows.uptoBulk x.1 := by
  obtain ⟨l, hr, hl, hform, hlen, hbk⟩ := dec_sliceB (fun cs (a : UInt8) => cs = [.int .u8 (a.toNat : Int)]) (fun _ => 1) Try.underlying24 (by rw [cells_byte]; omega) (fun n cs y hy hk => by
    obtain ⟨a, ha⟩ := dec_byte hy hk
    exact ⟨a, ha, bulk_pos _⟩) h hwt
  rw [cells_byte] at hr
  rw [bytes_byte, reach47] at hlen
  have e : l.flatMap (·.1) = bytesV (l.map (·.2)) := by
    clear hr hlen hform hbk
    induction l with
    | nil => rfl
    | cons p l ih =>
      rw [List.flatMap_cons, (hl p (by simp)).1, ih (fun q hq => hl q (by simp [hq]))]
      simp [bytesV]
  rw [e] at hr
  have e2 : (l.map (fun _ => 1)).sum = l.length := by
    clear hr hlen hform hbk hl e
    induction l with
    | nil => rfl
    | cons p l ih => simp [ih]; omega
  rw [e2] at hbk
  exact ⟨l.map (·.2), hr.one, by simpa using hlen, by simpa using hbk⟩
theorem dec_callB {n : Nat} {cs : List Value} {y : DataW H × List MemPlace} (h : DataW.trod enc Try.prog w base spare held n 46 cs = some y) (hwt : ∀ k ∈ y.1.weights Try.prog 46, k ≤ reachBytes) :
    ∃ a : CallV, (cs = a.cells ∧ a.ok w) ∧ a.raw.length ≤ Rows.uptoBulk y.1 := by
  obtain ⟨xs, m, rfl, rfl, hlen, hxl, hf⟩ := DataW.trod_struct Try.underlying46 h
  rw [cells_call] at hlen
  match cs, hlen with
  | [c0, c1, c2], _ =>
    match xs, hxl with
    | [x0, x1, x2], _ =>
      have h0 : DataW.trod enc Try.prog w base spare held m 3 [c0] = some x0 := by
        have h := hf 0 _ rfl
        simpa [cells_int] using h
      have h1 : DataW.trod enc Try.prog w base spare held m 22 [c1] = some x1 := by
        have h := hf 1 _ rfl
        simpa [cells_u64] using h
      have h2 : DataW.trod enc Try.prog w base spare held m 24 [c2] = some x2 := by
        have h := hf 2 _ rfl
        simpa [cells_bytes] using h
      obtain ⟨a, ea, rfl, wa⟩ := DataW.trod_int Try.underlying3 h0
      obtain ⟨b, eb, rfl, wb⟩ := DataW.trod_int Try.underlying22 h1
      simp only [List.cons.injEq, and_true] at ea eb
      subst ea eb
      obtain ⟨bs, hr, hl, hbk⟩ := dec_bytesB h2 (fun k hk => hwt k (by
        simp only [DataW.weights, Try.underlying46]
        exact weights_part (j := 2) (t := 24) (d := x2.1) rfl rfl k hk))
      have ha : -9223372036854775808 ≤ a ∧ a ≤ 9223372036854775807 := by
        simp only [Lit.wf, IntKind.min, IntKind.max, IntKind.signed, IntKind.bits, Bool.and_eq_true] at wa
        have h2 : (2:Int)^63 = 9223372036854775808 := by decide
        simp at wa
        omega
      have hb : 0 ≤ b ∧ b < 18446744073709551616 := by
        simp only [Lit.wf, IntKind.min, IntKind.max, IntKind.signed, IntKind.bits, Bool.and_eq_true] at wb
        have h2 : (2:Int)^64 = 18446744073709551616 := by decide
        simp at wb
        omega
      obtain ⟨n, rfl⟩ := Int.eq_ofNat_of_zero_le hb.1
      refine ⟨⟨a, n, c2, bs⟩, ⟨rfl, ha.1, ha.2, by show n < 18446744073709551616; omega, hr, hl⟩, ?_⟩
      show bs.length ≤ _
      simp only [Rows.uptoBulk, Rows.uptoBulkAll, List.map_cons, List.map_nil]
      omega
/-- the row of calls, what its raw bytes are together -/
def CallsOfB (w : World) (v : Value) (l : List CallV) : Prop := CallsOf w v l ∧ (l.map (fun c => c.raw.length)).sum ≤ 1048576
theorem open_callsBP {v : Value} {d : DataW H} {p : List MemPlace} (hok : Value.okWide Try.prog w .any base 35 v) (h : DataW.Trod enc Try.prog w 0 (fun _ => true) true 35 v d p) (hwt : ∀ k ∈ d.weights Try.prog 35, k ≤ reachBytes) (hbk : Rows.uptoBulk d ≤ 1048576) :
    ∃ l : List CallV, CallsOfB w v l := by
  obtain ⟨a, n, c, rfl⟩ := okWide_slice Try.underlying35 hok
  obtain ⟨fuel, hf⟩ := h
  obtain ⟨l, hr, hl, ⟨A, c', e⟩, hlen, hsum⟩ := dec_sliceB (v := .slice a n c) (fun cs (x : CallV) => cs = x.cells ∧ x.ok w) (fun x => x.raw.length) Try.underlying35 (by rw [cells_call]; omega) (fun n cs y hy hk => dec_callB hy hk) (by simpa [Value.cells] using hf) hwt
  rw [cells_call] at hr
  have e2 : l.flatMap (·.1) = (l.map (·.2)).flatMap CallV.cells := by
    clear hr hlen e hsum
    induction l with
    | nil => rfl
    | cons p l ih =>
      rw [List.flatMap_cons, (hl p (by simp)).1.1, ih (fun q hq => hl q (by simp [hq]))]
      simp
  rw [e2] at hr
  have hb : Try.prog.bytesOf 46 = 40 := by kernel_rfl
  rw [hb, reach47] at hlen
  refine ⟨l.map (·.2), ⟨hr, Lib.hid (fun c hc => ?_), ⟨A, c', by simpa using e⟩, by simp; omega⟩, ?_⟩
  · obtain ⟨p, hp, rfl⟩ := List.mem_map.1 hc
    exact (hl p hp).1.2
  · have : ((l.map (·.2)).map (fun c : CallV => c.raw.length)) = l.map (fun p => p.2.raw.length) := by rw [List.map_map]; rfl
    rw [this]
    exact Nat.le_trans hsum hbk
end
end Go.Proofs.Ythnebanlpmehjaa
