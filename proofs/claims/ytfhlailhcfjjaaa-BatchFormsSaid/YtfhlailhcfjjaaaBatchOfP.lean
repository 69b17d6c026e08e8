/- What batch.Of tells; its memory. -/
import Derived.Test.YtfhlailhcfjjaaaDataRef3
import Derived.Test.YtfhlailhcfjjaaaOpenI
import Derived.Test.YtfhlailhcfjjaaaSameT
import Derived.Test.YtfhlailhcfjjaaaConcat
namespace Go.Proofs.Ytfhlailhcfjjaaa
open Go.RowKit
set_option linter.unusedVariables false
set_option linter.unusedSimpArgs false

def exAt (d : DatV) (i : Int) : ExV := (d.xs[i.toNat]?).getD default
def idIn (d : DatV) (i : Int) : Bool := decide (0 ≤ i) && decide (i < d.xs.length)
def idsOk (d : DatV) (ids : List Int) : Bool := ids.all (idIn d)
def ofDims (d : DatV) (ids : List Int) : List Int := [(ids.length : Int), d.a, d.b, d.c]
def ofData (d : DatV) (ids : List Int) : List Int := ids.flatMap (fun i => (exAt d i).data)
def ofLabels (d : DatV) (ids : List Int) : List Int := ids.map (fun i => (exAt d i).label)
def ofOk (d : DatV) (ids : List Int) : Bool := (mayD d && (decide (1 ≤ ids.length) && decide (ids.length ≤ 64))) && (idsOk d ids && decide (0 < sizeI (ofDims d ids)))
theorem idIn_of {d : DatV} {i : Int} (h : idIn d i = true) : 0 ≤ i ∧ i.toNat < d.xs.length ∧ d.xs[i.toNat]? = some (exAt d i) := by
  unfold idIn at h
  simp only [Bool.and_eq_true, decide_eq_true_eq] at h
  have hl : i.toNat < d.xs.length := by omega
  refine ⟨h.1, hl, ?_⟩
  unfold exAt
  rw [List.getElem?_eq_getElem hl]
  rfl
theorem exAt_of {d : DatV} {i : Int} {e : ExV} (h : d.xs[i.toNat]? = some e) : exAt d i = e := by
  unfold exAt
  rw [h]
  rfl
theorem ofData_next {d : DatV} {ids : List Int} {k : Nat} {i : Int} {e : ExV} (hk : ids[k]? = some i) (he : d.xs[i.toNat]? = some e) : ofData d (ids.take (k + 1)) = ofData d (ids.take k) ++ e.data := by
  unfold ofData
  rw [List.take_add_one, hk]
  simp [exAt_of he]
theorem ofLabels_next {d : DatV} {ids : List Int} {k : Nat} {i : Int} {e : ExV} (hk : ids[k]? = some i) (he : d.xs[i.toNat]? = some e) : ofLabels d (ids.take (k + 1)) = ofLabels d (ids.take k) ++ [e.label] := by
  unfold ofLabels
  rw [List.take_add_one, hk]
  simp [exAt_of he]
theorem idsOk_next {d : DatV} {ids : List Int} {k : Nat} {i : Int} (hk : ids[k]? = some i) : idsOk d (ids.take (k + 1)) = (idsOk d (ids.take k) && idIn d i) := by
  unfold idsOk
  rw [List.take_add_one, hk, List.all_append]
  simp
theorem idsOk_bad {d : DatV} {ids : List Int} {k : Nat} {i : Int} (hk : ids[k]? = some i) (h : idIn d i = false) : idsOk d ids = false := by
  unfold idsOk
  rw [List.all_eq_false]
  exact ⟨i, List.mem_of_getElem? hk, by rw [h]; simp⟩
theorem ofOk_bad {d : DatV} {ids : List Int} (h : idsOk d ids = false) : ofOk d ids = false := by
  unfold ofOk
  rw [h, Bool.false_and, Bool.and_false]
theorem ofData_len {d : DatV} (hm : mayD d = true) : ∀ (ids : List Int), idsOk d ids = true → ((ofData d ids).length : Int) = ids.length * sizeD d
  | [], _ => by simp [ofData]
  | i :: ids, h => by
    unfold idsOk at h
    rw [List.all_cons, Bool.and_eq_true] at h
    have h1 := ofData_len hm ids h.2
    obtain ⟨_, hl, he⟩ := idIn_of h.1
    have h2 := oneI_len ((mayD_of hm).2 _ (List.mem_of_getElem? he))
    have e : ofData d (i :: ids) = (exAt d i).data ++ ofData d ids := by unfold ofData; simp
    rw [e, List.length_append, List.length_cons]
    rw [show (((ids.length + 1 : Nat) : Int)) * sizeD d = (ids.length : Int) * sizeD d + sizeD d by push_cast; rw [Int.add_mul]; omega]
    push_cast
    omega
theorem ofData_le {d : DatV} (hm : mayD d = true) (ids : List Int) (h : idsOk d ids = true) (hl : ids.length ≤ 64) : (ofData d ids).length ≤ 131072 := by
  have h1 := ofData_len hm ids h
  have h2 := sizeD_in (mayD_of hm).1
  have h3 : (ids.length : Int) * sizeD d ≤ 64 * 2048 := Int.mul_le_mul (by omega) (by omega) (by omega) (by omega)
  omega
theorem ofData_none {d : DatV} (hm : mayD d = true) (ids : List Int) (h : idsOk d ids = true) : -128 ∉ ofData d ids := by
  intro hx
  unfold ofData at hx
  obtain ⟨i, hi, hx⟩ := List.mem_flatMap.1 hx
  unfold idsOk at h
  have h1 := List.all_eq_true.1 h i hi
  obtain ⟨_, _, he⟩ := idIn_of h1
  have h2 := (mayD_of hm).2 _ (List.mem_of_getElem? he)
  unfold oneI at h2
  simp only [Bool.and_eq_true, Bool.not_eq_true', List.contains_eq_mem, decide_eq_false_iff_not] at h2
  exact h2.2.1 hx
theorem ofData_in {d : DatV} (hb : bytesD d) (ids : List Int) (h : idsOk d ids = true) : ∀ x ∈ ofData d ids, -128 ≤ x ∧ x ≤ 127 := by
  intro x hx
  unfold ofData at hx
  obtain ⟨i, hi, hx⟩ := List.mem_flatMap.1 hx
  unfold idsOk at h
  obtain ⟨_, _, he⟩ := idIn_of (List.all_eq_true.1 h i hi)
  exact hb _ (List.mem_of_getElem? he) x hx
theorem sizeI_four {m a b c : Int} (h : 0 < sizeI [m, a, b, c]) : sizeI [m, a, b, c] = m * (a * b * c) := by
  unfold sizeI at h ⊢
  rw [if_neg (by simp)] at h ⊢
  simp only [sizeGo] at h ⊢
  split at h
  · omega
  · split at h
    · omega
    · split at h
      · omega
      · split at h
        · omega
        · rename_i h1 h2 h3 h4
          rw [if_neg h1, if_neg h2, if_neg h3, if_neg h4, Int.one_mul]
          simp only [Int.mul_assoc]
theorem ofMay {d : DatV} (hm : mayD d = true) (ids : List Int) (h : idsOk d ids = true) : mayB (ofDims d ids) d.exp (ofData d ids) = decide (0 < sizeI (ofDims d ids)) := by
  unfold mayB
  by_cases h0 : 0 < sizeI (ofDims d ids)
  · rw [decide_eq_true h0, Bool.true_and]
    have h1 : sizeI (ofDims d ids) = ids.length * sizeD d := sizeI_four h0
    have h2 := ofData_len hm ids h
    have h3 := (headI_of (mayD_of hm).1).2.2.2.1
    have h4 := ofData_none hm ids h
    rw [h1, h2]
    simp [h3.1, h3.2, h4]
  · rw [decide_eq_false h0, Bool.false_and]
/-- what Of tells -/
def OfGot (w : World) (d : DatV) (ids : List Int) (en : Ending) (w' : World) : Prop :=
  Below w.heap.size w w' ∧ ((ofOk d ids = false ∧ en = .returned (.tuple #[.agg #[.slice none 0 0, .int .i64 0, .slice none 0 0], .slice none 0 0, .int .i64 1])) ∨
    (ofOk d ids = true ∧ ∃ A1 c1 A2 c2 A3 c3, en = .returned (.tuple #[.agg #[.slice A1 4 c1, .int .i64 d.exp, .slice A2 (ofData d ids).length c2], .slice A3 ids.length c3, .int .i64 0]) ∧
      Reads w' w'.heap.size (.slice A1 4 c1) (ints .i64 (ofDims d ids)) ∧ Reads w' w'.heap.size (.slice A2 (ofData d ids).length c2) (ints .i8 (ofData d ids)) ∧ Reads w' w'.heap.size (.slice A3 ids.length c3) (ints .i64 (ofLabels d ids))))
/-- the memory of Of: p the tensor's block, below G -/
structure OfS (w0 W : World) (G p : Nat) (A0 : Option Addr) (c0 : Nat) (ds : List Int) (e : Int) (v : Value) (xs : List Int) (lv : Value) (ls : List Int) (oth : List (Nat × TypeId × List Value)) : Prop where
  bel : Below w0.heap.size w0 W
  lo : w0.heap.size ≤ p ∧ p < G ∧ G ≤ W.heap.size
  blk : Blk W p 47 [.slice A0 4 c0, .int .i64 e, v]
  own : W.ownsRow G 52 1 v xs.length (ints .i8 xs)
  lab : W.ownsRow G 3 1 lv ls.length (ints .i64 ls)
  ap : ∀ k, v.ownBlock = some k → lv.ownBlock ≠ some k
  dims : W.ownsRow w0.heap.size 3 1 (.slice A0 4 c0) 4 (ints .i64 ds) ∧ ∀ k, (Value.slice A0 4 c0).ownBlock = some k → k < G ∧ k ≠ p
  oth : ∀ b ∈ oth, Blk W b.1 b.2.1 b.2.2 ∧ b.1 < G ∧ b.1 ≠ p
section
variable {w0 W W' : World} {G p : Nat} {A0 : Option Addr} {c0 : Nat} {ds : List Int} {e : Int} {v v' : Value} {xs xs' : List Int} {lv lv' : Value} {ls ls' : List Int} {oth : List (Nat × TypeId × List Value)}
theorem OfS.below (h : OfS w0 W G p A0 c0 ds e v xs lv ls oth) (hb : Below W.heap.size W W') : OfS w0 W' G p A0 c0 ds e v xs lv ls oth := by
  have hlo := h.lo
  have hs := hb.size
  exact ⟨h.bel.trans (hb.mono h.bel.size), ⟨hlo.1, hlo.2.1, by omega⟩, h.blk.below hb h.blk.lt, own_bel4 h.own hb, own_bel4 h.lab hb, h.ap, ⟨own_bel4 h.dims.1 hb, h.dims.2⟩, fun b hm => ⟨(h.oth b hm).1.below hb (h.oth b hm).1.lt, (h.oth b hm).2⟩⟩
theorem OfS.step (h : OfS w0 W G p A0 c0 ds e v xs lv ls oth) (ho : Off (fun i => v.ownBlock = some i ∨ lv.ownBlock = some i) W W') (h1 : W'.ownsRow G 52 1 v' xs'.length (ints .i8 xs')) (h2 : W'.ownsRow G 3 1 lv' ls'.length (ints .i64 ls')) (h3 : ∀ k, v'.ownBlock = some k → lv'.ownBlock ≠ some k) :
    OfS w0 (W'.setCell ⟨p, 2, none⟩ v') G p A0 c0 ds e v' xs' lv' ls' oth := by
  have hlo := h.lo
  have hvG : ∀ k, v.ownBlock = some k → G ≤ k := fun k hk => (h.own.lt k hk).1
  have hlG : ∀ k, lv.ownBlock = some k → G ≤ k := fun k hk => (h.lab.lt k hk).1
  have hn : ∀ i, i < G → ¬ (v.ownBlock = some i ∨ lv.ownBlock = some i) := fun i hi hs => by rcases hs with hs | hs; have := hvG i hs; omega; have := hlG i hs; omega
  have ho2 : Off (fun i => i = p ∨ v.ownBlock = some i ∨ lv.ownBlock = some i) W (W'.setCell ⟨p, 2, none⟩ v') := (ho.mono (fun i hi => .inl (.inr hi))).setCell (p := ⟨p, 2, none⟩) (.inl (.inl rfl)) v'
  have hn2 : ∀ i, i < G → i ≠ p → ¬ (i = p ∨ v.ownBlock = some i ∨ lv.ownBlock = some i) := fun i hi hp hs => by rcases hs with hs | hs; exact hp hs; exact hn i hi hs
  have ho3 : Off (fun i => i = p) W' (W'.setCell ⟨p, 2, none⟩ v') := (Off.refl (fun i => i = p) W').setCell (p := ⟨p, 2, none⟩) (.inl rfl) v'
  have hsz := ho2.size
  refine ⟨h.bel.trans (ho2.below h.bel.size (fun i hi => ?_)), ⟨hlo.1, hlo.2.1, by omega⟩, ?_, own_off h1 ho3 (fun k hk => by have := (h1.lt k hk).1; omega), own_off h2 ho3 (fun k hk => by have := (h2.lt k hk).1; omega), h3, ⟨own_off h.dims.1 ho2 (fun k hk => hn2 k (h.dims.2 k hk).1 (h.dims.2 k hk).2), h.dims.2⟩, fun b hm => ⟨(h.oth b hm).1.off ho2 (hn2 _ (h.oth b hm).2.1 (h.oth b hm).2.2), (h.oth b hm).2⟩⟩
  · have := h.bel.size
    rcases hi with hi | hi | hi
    · omega
    · have := hvG i hi; omega
    · have := hlG i hi; omega
  · have hb := h.blk.off ho (hn p hlo.2.1)
    exact hb.put 2 v'
/-- the labels' row behind the first append -/
theorem OfS.lab1 (h : OfS w0 W G p A0 c0 ds e v xs lv ls oth) {Wa W1 Wb : World} (hA : Off (fun _ => False) W Wa) (hg1 : Wa.grownBy W1 v.ownBlock) (hB : Off (fun _ => False) W1 Wb) : Wb.ownsRow G 3 1 lv ls.length (ints .i64 ls) ∧ Off (fun i => v.ownBlock = some i) W Wb := by
  have h1 : Off (fun i => v.ownBlock = some i) W W1 := (hA.mono (T := fun i => v.ownBlock = some i) (fun i hi => hi.elim)).grown hg1 (fun k hk => .inl hk)
  have h2 : Off (fun i => v.ownBlock = some i) W Wb := h1.trans hB (fun i hi => hi.elim)
  exact ⟨own_off h.lab h2 (fun k hk hv => h.ap k hv hk), h2⟩
theorem OfS.two (h : OfS w0 W G p A0 c0 ds e v xs lv ls oth) {Wa W1 Wb W3 : World} (hA : Off (fun _ => False) W Wa) (hg1 : Wa.grownBy W1 v.ownBlock) (hf1 : Fresh Wa v v') (ho1 : W1.ownsRow G 52 1 v' xs'.length (ints .i8 xs'))
    (hB : Off (fun _ => False) W1 Wb) (hg3 : Wb.grownBy W3 lv.ownBlock) (hf3 : Fresh Wb lv lv') (ho3 : W3.ownsRow G 3 1 lv' ls'.length (ints .i64 ls')) : OfS w0 (W3.setCell ⟨p, 2, none⟩ v') G p A0 c0 ds e v' xs' lv' ls' oth := by
  obtain ⟨_, h2⟩ := h.lab1 hA hg1 hB
  have h3 : Off (fun i => v.ownBlock = some i ∨ lv.ownBlock = some i) W W3 := (h2.mono (T := fun i => v.ownBlock = some i ∨ lv.ownBlock = some i) (fun i hi => .inl (.inl hi))).grown hg3 (fun k hk => .inl (.inr hk))
  have hvl : ∀ k, v'.ownBlock = some k → lv.ownBlock ≠ some k := fun k hk hl => by
    rcases hf1.off hk with h4 | h4
    · exact h.ap k h4 hl
    · have := (h.lab.lt k hl).2
      have := hA.size
      omega
  refine h.step h3 (own_off ho1 ((hB.mono (T := fun i => lv.ownBlock = some i) (fun i hi => hi.elim)).grown hg3 (fun k hk => .inl hk)) (fun k hk hl => hvl k hk hl)) ho3 (fun k hk hl => ?_)
  rcases hf3.off hl with h4 | h4
  · exact hvl k hk h4
  · have := (ho1.lt k hk).2
    have := hB.size
    omega
end
end Go.Proofs.Ytfhlailhcfjjaaa
