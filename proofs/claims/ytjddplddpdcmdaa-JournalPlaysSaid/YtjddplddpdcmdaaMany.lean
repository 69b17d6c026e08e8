/- Stores of many cells into a block known whole; rows of rows; copy at elements of any size. -/
import Derived.Test.YtjddplddpdcmdaaKept
import Derived.Deep.MidRow
namespace Go.Proofs.Ytjddplddpdcmdaa
open Go.RowKit
set_option linter.unusedVariables false
set_option linter.unusedSimpArgs false

section
variable {S : Nat → Prop} {w a b : World} {g g' : Nat} {t : TypeId} {cs : List Value}
theorem size_setCells (g : Nat) : ∀ (vs : List Value) (o : Nat) (w : World), (w.setCells g o vs).heap.size = w.heap.size
  | [], _, _ => rfl
  | v :: r, o, w => by rw [World.setCells, size_setCells g r]; simp [World.setCell]
theorem splice_step (cs : List Value) (o : Nat) (v : Value) (r : List Value) (h : o + (r.length + 1) ≤ cs.length) :
    (cs.set o v).take (o + 1) ++ r ++ (cs.set o v).drop (o + 1 + r.length) = cs.take o ++ v :: r ++ cs.drop (o + (v :: r).length) := by
  apply List.ext_getElem?
  intro j
  simp only [List.getElem?_append, List.length_append, List.length_take, List.length_set, List.length_cons, List.getElem?_take, List.getElem?_drop, List.getElem?_set, List.getElem?_cons]
  have e1 : min (o + 1) cs.length = o + 1 := by omega
  have e2 : min o cs.length = o := by omega
  rw [e1, e2]
  by_cases h1 : j < o
  · simp [h1, show j < o + 1 + r.length by omega, show j < o + 1 by omega, show ¬ o = j by omega, show j < o + (r.length + 1) by omega]
  · by_cases h2 : j = o
    · subst h2
      simp [show j < j + 1 + r.length by omega, show j < j + (r.length + 1) by omega, show j < cs.length by omega]
    · by_cases h3 : j < o + 1 + r.length
      · simp [h1, h3, show ¬ j < o + 1 by omega, show j < o + (r.length + 1) by omega, show ¬ j - o = 0 by omega, show j - o - 1 = j - (o + 1) by omega]
      · simp [h1, h3, show ¬ j < o + (r.length + 1) by omega, show o + 1 + r.length + (j - (o + 1 + r.length)) = o + (r.length + 1) + (j - (o + (r.length + 1))) by omega, show ¬ o = o + (r.length + 1) + (j - (o + (r.length + 1))) by omega]
theorem Blk.setCells : ∀ (vs : List Value) (o : Nat) {w : World} {cs : List Value}, Blk w g t cs → o + vs.length ≤ cs.length → Blk (w.setCells g o vs) g t (cs.take o ++ vs ++ cs.drop (o + vs.length))
  | [], o, w, cs, h, _ => by simpa [World.setCells] using h
  | v :: r, o, w, cs, h, hf => by
    rw [World.setCells]
    have := Blk.setCells r (o + 1) (h.put o v) (by simp at hf ⊢; omega)
    rw [splice_step cs o v r (by simpa using hf)] at this
    exact this
theorem Off.setCells : ∀ (vs : List Value) (o : Nat) {b : World}, Off S a b → (S g ∨ a.heap.size ≤ g) → Off S a (b.setCells g o vs)
  | [], _, _, h, _ => h
  | v :: r, o, b, h, hp => by
    rw [World.setCells]
    exact Off.setCells r (o + 1) (h.setCell (p := ⟨g, o, none⟩) hp v) hp
theorem Blk.farCells (h : Blk w g t cs) (hg : g ≠ g') (o : Nat) (vs : List Value) : Blk (w.setCells g' o vs) g t cs :=
  h.off ((Off.refl (fun i => i = g') w).setCells vs o (.inl rfl)) hg
theorem Blk.range (h : Blk w g t cs) (o : Nat) (vs : List Value) (hv : (cs.drop o).take vs.length = vs) : w.rangeAt g o vs := fun j v hj => by
  have hl := (List.getElem?_eq_some_iff.1 hj).1
  rw [h.cell, ← hj]
  conv => rhs; rw [← hv]
  rw [List.getElem?_take, if_pos hl, List.getElem?_drop]
theorem Blk.there (h : Blk w g t cs) (o n : Nat) (hf : o + n ≤ cs.length) : w.there g o n := fun j hj => by
  rw [h.cell, List.getElem?_eq_getElem (by omega)]
  exact ⟨rfl, h.free _⟩
end

section
variable {α : Type} (f : α → List Value) (sz : Nat)
theorem flat_split : ∀ (l : List α), (∀ p ∈ l, (f p).length = sz) → ∀ (i : Nat) (p : α), l[i]? = some p → l.flatMap f = (l.take i).flatMap f ++ f p ++ (l.drop (i + 1)).flatMap f := by
  intro l _ i p hp
  have hi := (List.getElem?_eq_some_iff.1 hp).1
  have e : l = l.take i ++ p :: l.drop (i + 1) := by
    rw [← (List.getElem?_eq_some_iff.1 hp).2, ← List.drop_eq_getElem_cons hi, List.take_append_drop]
  conv => lhs; rw [e]
  simp
theorem flat_takeD (l : List α) (h : ∀ p ∈ l, (f p).length = sz) (i : Nat) (hi : i ≤ l.length) : ((l.take i).flatMap f).length = i * sz := by
  rw [flat_length f sz _ (fun p hp => h p (List.mem_of_mem_take hp)), List.length_take, Nat.min_eq_left hi]
theorem flat_part (l : List α) (h : ∀ p ∈ l, (f p).length = sz) (i : Nat) (p : α) (hp : l[i]? = some p) : ((l.flatMap f).drop (i * sz)).take sz = f p := by
  have hi := (List.getElem?_eq_some_iff.1 hp).1
  have hl := h p (List.mem_of_getElem? hp)
  rw [flat_split f sz l h i p hp, List.append_assoc, List.drop_left' (flat_takeD f sz l h i (by omega)), List.take_left' hl]
theorem flat_setAt (l : List α) (h : ∀ p ∈ l, (f p).length = sz) (i : Nat) (hi : i < l.length) (x : α) (hx : (f x).length = sz) :
    (l.flatMap f).take (i * sz) ++ f x ++ (l.flatMap f).drop (i * sz + sz) = (l.set i x).flatMap f := by
  obtain ⟨p, hp⟩ : ∃ p, l[i]? = some p := ⟨l[i], List.getElem?_eq_getElem hi⟩
  have hl := h p (List.mem_of_getElem? hp)
  have ht := flat_takeD f sz l h i (by omega)
  have h1 : (l.flatMap f).take (i * sz) = (l.take i).flatMap f := by
    rw [flat_split f sz l h i p hp, List.append_assoc, List.take_left' ht]
  have h2 : (l.flatMap f).drop (i * sz + sz) = (l.drop (i + 1)).flatMap f := by
    rw [flat_split f sz l h i p hp, List.drop_left' (by rw [List.length_append, ht, hl])]
  rw [h1, h2, List.set_eq_take_append_cons_drop, if_pos hi]
  simp
variable {f sz}
variable {w : World} {B n c g : Nat} {e : TypeId} {l : List α}
/-- the ith element of an owned row -/
theorem own_range {v : Value} (hown : w.ownsRow B e sz v n (l.flatMap f)) (h : ∀ p ∈ l, (f p).length = sz) (hn : l.length = n) {i : Nat} {p : α} (hp : l[i]? = some p) :
    ∃ g c, v = .slice (some ⟨g, 0, none⟩) n c ∧ B ≤ g ∧ w.rangeAt g (i * sz) (f p) ∧ w.there g (i * sz) sz := by
  have hi := (List.getElem?_eq_some_iff.1 hp).1
  have hl := h p (List.mem_of_getElem? hp)
  obtain ⟨g, cap, rest, rfl, hb, hlt, hnc, hcm, hlen, hxl, hblk⟩ := own_blkN hown (by omega)
  have hle : i * sz + sz ≤ n * sz := by
    rw [← Nat.succ_mul]
    exact Nat.mul_le_mul_right _ (by omega)
  refine ⟨g, cap, rfl, hb, hblk.range (i * sz) (f p) ?_, hblk.there (i * sz) sz ?_⟩
  · rw [hl, List.drop_append_of_le_length (by omega), List.take_append_of_le_length (by rw [List.length_drop, hxl]; omega), flat_part f sz l h i p hp]
  · rw [List.length_append, hxl]; omega
theorem own_setAt (hown : w.ownsRow B e sz (.slice (some ⟨g, 0, none⟩) n c) n (l.flatMap f)) (h : ∀ p ∈ l, (f p).length = sz) (hn : l.length = n) {i : Nat} (hi : i < n) (x : α) (hx : (f x).length = sz) :
    (w.setCells g (i * sz) (f x)).ownsRow B e sz (.slice (some ⟨g, 0, none⟩) n c) n ((l.set i x).flatMap f) := by
  obtain ⟨g', cap, rest, e', hb, hlt, hnc, hcm, hlen, hxl, hblk⟩ := own_blkN hown (by omega)
  injection e' with e1 e2 e3
  injection e1 with e1
  injection e1 with e1
  subst e1 e3
  have hle : i * sz + sz ≤ n * sz := by
    rw [← Nat.succ_mul]
    exact Nat.mul_le_mul_right _ (by omega)
  have hb2 := Blk.setCells (f x) (i * sz) hblk (by rw [List.length_append, hxl, hx]; omega)
  rw [List.take_append_of_le_length (by omega), hx, List.drop_append_of_le_length (by omega), ← List.append_assoc, flat_setAt f sz l h i (by omega) x hx] at hb2
  have hfl : ((l.set i x).flatMap f).length = n * sz := by
    rw [flat_length f sz _ (fun p hp => by
      rcases List.mem_or_eq_of_mem_set hp with h1 | h1
      · exact h p h1
      · rw [h1]; exact hx), List.length_set, hn]
  have h3 := hb2.own (size := sz) hb hnc hcm (by
    rw [List.length_append] at hlen ⊢
    omega)
  rwa [List.take_left' hfl] at h3
end

/-- copy(dst, src): elements of any size; the source is read before anything is written -/
theorem run_copyN {P : Program} (w : World) (dT sT ty elem : TypeId) (b o dLen dCap sLen sCap sz m : Nat) (a : Addr) (cs : List Value)
    (hu : P.underlying dT = some (.slice elem)) (hs : (P.info? elem).map (·.size) = some sz) (hn : Nat.min sLen dLen = m) (hcs : cs.length = m * sz)
    (hsrc : ∀ j v, cs[j]? = some v → w.cell? (a.add j) = some v) (ht : w.there b o cs.length) (h1 : ∀ v ∈ cs, v.oneCell' = true) :
    (Builtin.copy_ #[dT, sT] ty #[.slice (some ⟨b, o, none⟩) dLen dCap, .slice (some a) sLen sCap]).run P w = .ok (goInt m) (w.setCells b o cs) := by
  have hl := run_loadCells_list (P := P) w a cs hsrc
  have hst := run_storeCells_cells (P := P) b o cs 0 w (fun j hj => by simpa using (ht j hj).1) (fun j hj => by simpa using (ht j hj).2) h1
  cases hq : P.info? elem with
  | none => simp [hq] at hs
  | some i =>
    have hi : i.size = sz := by simpa [hq] using hs
    rw [hcs] at hl
    simp [Builtin.copy_, run_underlying hu, Builtin.lenOf, Builtin.firstCells, sizeOf, typeInfo, hq, hi, hn, hl, hst]
theorem run_copyN_none {P : Program} (w : World) (dT sT ty elem : TypeId) (d a : Option Addr) (dLen dCap sLen sCap sz : Nat) (hu : P.underlying dT = some (.slice elem)) (hs : (P.info? elem).map (·.size) = some sz) (hn : Nat.min sLen dLen = 0) :
    (Builtin.copy_ #[dT, sT] ty #[.slice d dLen dCap, .slice a sLen sCap]).run P w = .ok (goInt 0) w := by
  cases hq : P.info? elem with
  | none => simp [hq] at hs
  | some i =>
    have hl : ∀ (x : Addr), (loadCells x 0).run P w = .ok #[] w := fun x => by simpa using run_loadCells_list (P := P) w x [] (by simp)
    cases d <;> cases a <;> simp [Builtin.copy_, run_underlying hu, Builtin.lenOf, Builtin.firstCells, sizeOf, typeInfo, hq, hn, storeCells, hl]
end Go.Proofs.Ytjddplddpdcmdaa
