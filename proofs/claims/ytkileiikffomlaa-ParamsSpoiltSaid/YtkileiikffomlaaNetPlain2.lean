/- Nets: plain. What holds of all that layers give; the longest sum. -/
import Derived.Test.YtkileiikffomlaaNetPlain
namespace Go.Proofs.Ytkileiikffomlaa
set_option linter.unusedVariables false
set_option linter.unusedSimpArgs false

theorem shapesI_step (l : LayV) (ls : List LayV) (all : List (List Int)) (i : Int) (d : List Int) : (givesI l all d = none ∧ shapesI (l :: ls) all i d = ([], i + 1, 2)) ∨ (∃ e, givesI l all d = some e ∧ shapesI (l :: ls) all i d = shapesI ls (all ++ [e]) (i + 1) e) := by
  simp only [shapesI]
  cases h : givesI l all d with
  | none => exact .inl ⟨rfl, rfl⟩
  | some e => exact .inr ⟨e, rfl, rfl⟩
/-- either all goes well, or one layer does not go with what is ahead of it -/
theorem shapesI_cases : ∀ (ls : List LayV) (all : List (List Int)) (i : Int) (d : List Int), (∃ n, shapesI ls all i d = ([], n, 2) ∧ i < n ∧ n ≤ i + ls.length) ∨ (∃ rest, shapesI ls all i d = (all ++ rest, 0, 0) ∧ rest.length = ls.length)
  | [], all, i, d => .inr ⟨[], by simp [shapesI], rfl⟩
  | l :: ls, all, i, d => by
    rcases shapesI_step l ls all i d with ⟨_, h⟩ | ⟨e, _, h⟩
    · exact .inl ⟨i + 1, h, by omega, by simp; omega⟩
    · rcases shapesI_cases ls (all ++ [e]) (i + 1) e with ⟨n, h1, h2, h3⟩ | ⟨rest, h1, h2⟩
      · exact .inl ⟨n, h.trans h1, by omega, by simp; omega⟩
      · exact .inr ⟨e :: rest, by rw [h, h1]; simp, by simp [h2]⟩
/-- each row comes of the one ahead of it -/
theorem shapesI_chain : ∀ (ls : List LayV) (all0 : List (List Int)) (i : Int) (m : Nat) (d : List Int) (rest : List (List Int)), all0.length = m + 1 → all0[m]? = some d → shapesI ls all0 i d = (all0 ++ rest, 0, 0) →
    ∀ (k : Nat) (l : LayV) (d' : List Int), ls[k]? = some l → (all0 ++ rest)[m + k]? = some d' → ∃ e, (all0 ++ rest)[m + k + 1]? = some e ∧ givesI l ((all0 ++ rest).take (m + k + 1)) d' = some e
  | [], all0, i, m, d, rest, hm, hd, h, k, l, d', hk, _ => by simp at hk
  | x :: ls, all0, i, m, d, rest, hm, hd, h, k, l, d', hk, hk' => by
    rcases shapesI_step x ls all0 i d with ⟨_, h1⟩ | ⟨e, hg, h1⟩
    · rw [h1] at h
      injection h with _ h
      injection h with _ h
      omega
    · rw [h1] at h
      rcases shapesI_cases ls (all0 ++ [e]) (i + 1) e with ⟨n, h2, _⟩ | ⟨rest', h2, h3⟩
      · rw [h2] at h
        injection h with _ h
        injection h with _ h
        omega
      · have hr : rest = e :: rest' := by
          rw [h2] at h
          injection h with h _
          simp only [List.append_assoc, List.singleton_append, List.append_cancel_left_eq] at h
          exact h.symm
        subst hr
        have he : (all0 ++ e :: rest') = (all0 ++ [e]) ++ rest' := by simp
        cases k with
        | zero =>
          simp at hk
          subst hk
          rw [Nat.add_zero, List.getElem?_append_left (by omega), hd] at hk'
          injection hk' with hk'
          subst hk'
          refine ⟨e, ?_, ?_⟩
          · rw [Nat.add_zero, List.getElem?_append_right (by omega), hm]; simp
          · rw [Nat.add_zero, ← hm, List.take_left', hg]; rfl
        | succ k =>
          simp only [List.getElem?_cons_succ] at hk
          have := shapesI_chain ls (all0 ++ [e]) (i + 1) (m + 1) e rest' (by simp [hm]) (by rw [← hm]; simp) h2 k l d' hk (by rw [← he, ← hk']; congr 1; omega)
          rw [← he] at this
          rw [show m + (k + 1) + 1 = m + 1 + k + 1 by omega]
          exact this
/-- what all of a net gives: rows, each good, each of the one ahead of it -/
structure NetOk (a b c : Int) (ls : List LayV) (all : List (List Int)) : Prop where
  may : mayM a b c ls = true
  len : all.length = ls.length + 1
  zero : all[0]? = some [a, b, c]
  chain : ∀ (k : Nat) (l : LayV) (d : List Int), ls[k]? = some l → all[k]? = some d → ∃ e, all[k + 1]? = some e ∧ givesI l (all.take (k + 1)) d = some e
theorem entersI_good {a b c : Int} (h : entersI a b c = true) : GoodD [a, b, c] := by
  unfold entersI at h
  simp only [Bool.and_eq_true] at h
  have h1 := inI_of h.1.1
  have h2 := inI_of h.1.2
  have h3 := inI_of h.2
  exact .inl ⟨a, b, c, rfl, by omega, by omega, by omega, by omega, by omega, by omega⟩
theorem mayM_parts {a b c : Int} {ls : List LayV} (h : mayM a b c ls = true) : entersI a b c = true ∧ (1 ≤ ls.length ∧ ls.length ≤ 12) ∧ mayLs ls 0 = true := by
  unfold mayM at h
  simp only [Bool.and_eq_true] at h
  have := inI_of h.2.1
  exact ⟨h.1, by omega, h.2.2⟩
/-- the three ways of shapesM -/
theorem shapesM_cases (a b c : Int) (ls : List LayV) :
    (shapesM a b c ls = ([], 0, 1) ∧ mayM a b c ls = false) ∨ (∃ n, shapesM a b c ls = ([], n, 2) ∧ 1 ≤ n ∧ n ≤ ls.length ∧ mayM a b c ls = true) ∨ (∃ all, shapesM a b c ls = (all, 0, 0) ∧ NetOk a b c ls all) := by
  cases hm : mayM a b c ls with
  | false => exact .inl ⟨by unfold shapesM; rw [hm]; simp, rfl⟩
  | true =>
    have he : shapesM a b c ls = shapesI ls [[a, b, c]] 0 [a, b, c] := by unfold shapesM; rw [if_pos hm]
    rw [he]
    rcases shapesI_cases ls [[a, b, c]] 0 [a, b, c] with ⟨n, h1, h2, h3⟩ | ⟨rest, h1, h2⟩
    · exact .inr (.inl ⟨n, h1, by omega, by omega, rfl⟩)
    · refine .inr (.inr ⟨_, h1, hm, by simp [h2], rfl, fun k l d hk hd => ?_⟩)
      have := shapesI_chain ls [[a, b, c]] 0 0 [a, b, c] rest rfl rfl h1 k l d hk (by rw [Nat.zero_add]; exact hd)
      rw [Nat.zero_add] at this
      exact this
theorem NetOk.good {a b c : Int} {ls : List LayV} {all : List (List Int)} (h : NetOk a b c ls all) : ∀ (k : Nat) (d : List Int), all[k]? = some d → GoodD d := by
  obtain ⟨h1, h2, h3⟩ := mayM_parts h.may
  intro k
  induction k with
  | zero =>
    intro d hd
    rw [h.zero] at hd
    injection hd with hd
    subst hd
    exact entersI_good h1
  | succ k ih =>
    intro d hd
    have hk := (List.getElem?_eq_some_iff.1 hd).1
    have hl := h.len
    obtain ⟨l, hl1⟩ : ∃ l, ls[k]? = some l := ⟨ls[k]'(by omega), List.getElem?_eq_getElem (by omega)⟩
    obtain ⟨d0, hd0⟩ : ∃ d, all[k]? = some d := ⟨all[k]'(by omega), List.getElem?_eq_getElem (by omega)⟩
    obtain ⟨e, he, hg⟩ := h.chain k l d0 hl1 hd0
    rw [hd] at he
    injection he with he
    subst he
    have hma := mayLs_at ls 0 k l h3 hl1
    exact givesI_good hma (ih d0 hd0) hg

/-- how many products the sums of a layer have, there and back; how many weights it has -/
def sumsI (l : LayV) (d e : List Int) (batch : Int) : List Int × Int :=
  if l.kind = 1 then ([d.headD 0, l.out, batch], l.out * d.headD 0)
  else if l.kind = 2 then ([d.headD 0 * (l.k * l.k), l.out * (l.k * l.k), batch * e.getD 1 0 * e.getD 2 0], l.out * d.headD 0 * (l.k * l.k))
  else ([], 0)
/-- is a sum of n products never too great? -/
def fitsI (n : Int) : Bool := decide (0 ≤ n) && decide (n < 960)
/-- the longest, or: one is too great -/
def goC (all : Bool) : List Int → Int → Option Int
  | [], lg => some lg
  | c :: cs, lg => if (all || fitsI c) = true then goC all cs (max lg c) else none
def overI (l : LayV) (d e : List Int) (batch : Int) : Bool := decide (8192 < batch * max (prodI d) (prodI e)) || decide (8192 < (sumsI l d e batch).2)
def runW (flag : Bool) (batch : Int) : List LayV → List (List Int) → Int → Int → Int × Int × Int
  | [], _, _, lg => (lg, 0, 0)
  | l :: ls, rows, i, lg =>
    if overI l (rows.headD []) (rows.tail.headD []) batch = true then (0, i + 1, 1)
    else match goC flag (sumsI l (rows.headD []) (rows.tail.headD []) batch).1 lg with
      | none => (0, i + 1, 3)
      | some lg' => runW flag batch ls rows.tail (i + 1) lg'
def boundsI (classes batch : Int) : Bool := inI classes 2 10 && inI batch 1 8
def lastI (all : List (List Int)) : List Int := all.getD (all.length - 1) []
def walkI (flag : Bool) (a b c : Int) (ls : List LayV) (classes batch : Int) : Int × Int × Int :=
  if (shapesM a b c ls).2.2 ≠ 0 then (0, (shapesM a b c ls).2.1, (shapesM a b c ls).2.2)
  else if boundsI classes batch = false then (0, 0, 1)
  else if lastI (shapesM a b c ls).1 ≠ [classes] then (0, ls.length, 2)
  else runW flag batch ls (shapesM a b c ls).1 0 0
end Go.Proofs.Ytkileiikffomlaa
