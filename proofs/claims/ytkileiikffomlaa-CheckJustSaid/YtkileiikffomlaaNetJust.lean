/- Nets: plain. A net that is let has its longest sum in bounds, and so with a lesser batch; one whose sums are too long has not. -/
import Derived.Test.YtkileiikffomlaaNetPlain2
namespace Go.Proofs.Ytkileiikffomlaa
set_option linter.unusedVariables false

def leL : List Int → List Int → Prop
  | [], [] => True
  | x :: xs, y :: ys => x ≤ y ∧ 0 ≤ x ∧ leL xs ys
  | _, _ => False
theorem fits_iff (x : Int) : fitsI x = true ↔ 0 ≤ x ∧ x < 960 := by unfold fitsI; simp
theorem goC_mono : ∀ (xs ys : List Int) (lg lg' r : Int), leL xs ys → lg ≤ lg' → goC false ys lg' = some r → ∃ r', goC false xs lg = some r' ∧ r' ≤ r
  | [], [], lg, lg', r, _, hl, h => by
    simp only [goC, Option.some.injEq] at h ⊢
    exact ⟨lg, rfl, by omega⟩
  | x :: xs, y :: ys, lg, lg', r, hle, hl, h => by
    obtain ⟨h1, h2, h3⟩ := hle
    simp only [goC, Bool.false_or] at h ⊢
    by_cases hf : fitsI y = true
    · rw [if_pos hf] at h
      have hy := (fits_iff y).1 hf
      rw [if_pos ((fits_iff x).2 (by omega))]
      exact goC_mono xs ys _ _ r h3 (by omega) h
    · rw [if_neg hf] at h
      cases h
  | [], _ :: _, _, _, _, hle, _, _ => hle.elim
  | _ :: _, [], _, _, _, hle, _, _ => hle.elim
theorem goC_true : ∀ (cs : List Int) (lg r : Int), goC false cs lg = some r → goC true cs lg = some r
  | [], _, _, h => h
  | c :: cs, lg, r, h => by
    simp only [goC, Bool.false_or, Bool.true_or, if_true] at h ⊢
    by_cases hf : fitsI c = true
    · rw [if_pos hf] at h
      exact goC_true cs _ r h
    · rw [if_neg hf] at h
      cases h
theorem goC_in : ∀ (cs : List Int) (lg r : Int), 0 ≤ lg → lg < 960 → goC false cs lg = some r → 0 ≤ r ∧ r < 960
  | [], lg, r, h0, h1, h => by
    simp only [goC, Option.some.injEq] at h
    omega
  | c :: cs, lg, r, h0, h1, h => by
    simp only [goC, Bool.false_or] at h
    by_cases hf : fitsI c = true
    · rw [if_pos hf] at h
      have hc := (fits_iff c).1 hf
      exact goC_in cs _ r (by omega) (by omega) h
    · rw [if_neg hf] at h
      cases h
theorem goC_ge : ∀ (cs : List Int) (lg : Int), ∃ r, goC true cs lg = some r ∧ lg ≤ r ∧ ∀ c ∈ cs, c ≤ r
  | [], lg => ⟨lg, rfl, by omega, by simp⟩
  | c :: cs, lg => by
    obtain ⟨r, h1, h2, h3⟩ := goC_ge cs (max lg c)
    refine ⟨r, ?_, by omega, fun x hx => ?_⟩
    · simp only [goC, Bool.true_or, if_true]
      exact h1
    · rcases List.mem_cons.1 hx with rfl | hx
      · omega
      · exact h3 x hx
theorem goC_none : ∀ (cs : List Int) (lg : Int), goC false cs lg = none → ∃ c ∈ cs, fitsI c = false
  | [], lg, h => by simp [goC] at h
  | c :: cs, lg, h => by
    simp only [goC, Bool.false_or] at h
    by_cases hf : fitsI c = true
    · rw [if_pos hf] at h
      obtain ⟨x, hx, hx2⟩ := goC_none cs _ h
      exact ⟨x, by simp [hx], hx2⟩
    · exact ⟨c, by simp, by simpa using hf⟩
theorem headD_nonneg {d : List Int} (h : GoodD d) : 0 ≤ d.headD 0 := by
  rcases h with ⟨c, p, q, rfl, h1, _⟩ | ⟨n, rfl, h1, _⟩ <;> simp <;> omega
theorem getD_nonneg {d : List Int} (h : GoodD d) (k : Nat) : 0 ≤ d.getD k 0 := by
  rw [List.getD_eq_getElem?_getD]
  cases hk : d[k]? with
  | none => simp
  | some x =>
    have := h.bd x (List.mem_of_getElem? hk)
    simp
    omega
theorem out_nonneg {l : LayV} {i : Int} (h : mayL l i = true) (hk : l.kind = 1 ∨ l.kind = 2) : 0 ≤ l.out := by
  unfold mayL okL at h
  simp only [Bool.and_eq_true] at h
  rcases hk with hk | hk
  · rw [if_pos hk] at h
    have := inI_of h.1
    omega
  · rw [if_neg (by omega), if_pos hk] at h
    simp only [Bool.and_eq_true] at h
    have := inI_of h.1.1.1
    omega
theorem sq_nonneg (k : Int) : 0 ≤ k * k := by
  rcases Int.le_total 0 k with h | h
  · exact Int.mul_nonneg h h
  · exact Int.mul_nonneg_of_nonpos_of_nonpos h h
theorem sums_le {l : LayV} {i : Int} {d e : List Int} {less bt : Int} (hm : mayL l i = true) (hd : GoodD d) (he : GoodD e) (h0 : 1 ≤ less) (h1 : less ≤ bt) : leL (sumsI l d e less).1 (sumsI l d e bt).1 ∧ (sumsI l d e less).2 = (sumsI l d e bt).2 := by
  unfold sumsI
  by_cases k1 : l.kind = 1
  · rw [if_pos k1, if_pos k1]
    have := out_nonneg hm (.inl k1)
    exact ⟨⟨Int.le_refl _, headD_nonneg hd, Int.le_refl _, this, h1, by omega, trivial⟩, rfl⟩
  · rw [if_neg k1, if_neg k1]
    by_cases k2 : l.kind = 2
    · rw [if_pos k2, if_pos k2]
      have ho := out_nonneg hm (.inr k2)
      have hk := sq_nonneg l.k
      have e1 := getD_nonneg he 1
      have e2 := getD_nonneg he 2
      have m1 : less * e.getD 1 0 ≤ bt * e.getD 1 0 := Int.mul_le_mul_of_nonneg_right h1 e1
      refine ⟨⟨Int.le_refl _, Int.mul_nonneg (headD_nonneg hd) hk, Int.le_refl _, Int.mul_nonneg ho hk, Int.mul_le_mul_of_nonneg_right m1 e2, Int.mul_nonneg (Int.mul_nonneg (by omega) e1) e2, trivial⟩, rfl⟩
    · rw [if_neg k2, if_neg k2]
      exact ⟨trivial, rfl⟩
theorem sums_nonneg {l : LayV} {i : Int} {d e : List Int} {bt : Int} (hm : mayL l i = true) (hd : GoodD d) (he : GoodD e) (h0 : 1 ≤ bt) : ∀ c ∈ (sumsI l d e bt).1, 0 ≤ c := by
  have h := (sums_le (i := i) hm hd he h0 (Int.le_refl bt)).1
  generalize (sumsI l d e bt).1 = cs at h
  induction cs with
  | nil => simp
  | cons c cs ih =>
    intro x hx
    rcases List.mem_cons.1 hx with rfl | hx
    · exact h.2.1
    · exact ih h.2.2 x hx
theorem over_le {l : LayV} {i : Int} {d e : List Int} {less bt : Int} (hm : mayL l i = true) (hd : GoodD d) (he : GoodD e) (h0 : 1 ≤ less) (h1 : less ≤ bt) (h : overI l d e bt = false) : overI l d e less = false := by
  unfold overI at h ⊢
  simp only [Bool.or_eq_false_iff, decide_eq_false_iff_not] at h ⊢
  have h2 := (sums_le (i := i) hm hd he h0 h1).2
  have hp := hd.prod
  have hq := he.prod
  have hmx : 0 ≤ max (prodI d) (prodI e) := by omega
  have := Int.mul_le_mul_of_nonneg_right h1 hmx
  exact ⟨by omega, by rw [h2]; exact h.2⟩
/-- the rows are good, one more than the layers -/
structure RowsOk (ls : List LayV) (i : Int) (rows : List (List Int)) : Prop where
  may : mayLs ls i = true
  len : rows.length = ls.length + 1
  good : ∀ d ∈ rows, GoodD d
theorem RowsOk.cons {l : LayV} {ls : List LayV} {i : Int} {rows : List (List Int)} (h : RowsOk (l :: ls) i rows) : ∃ d e rest, rows = d :: e :: rest ∧ mayL l i = true ∧ GoodD d ∧ GoodD e ∧ RowsOk ls (i + 1) (e :: rest) := by
  obtain ⟨h1, h2, h3⟩ := h
  match rows, h2 with
  | d :: e :: rest, h2 =>
    simp only [mayLs, Bool.and_eq_true] at h1
    exact ⟨d, e, rest, rfl, h1.1, h3 d (by simp), h3 e (by simp), h1.2, by simpa using h2, fun x hx => h3 x (by simp at hx ⊢; right; exact hx)⟩
theorem runW_eq (flag : Bool) (bt : Int) (l : LayV) (ls : List LayV) (d e : List Int) (rest : List (List Int)) (i lg : Int) :
    runW flag bt (l :: ls) (d :: e :: rest) i lg = if overI l d e bt = true then (0, i + 1, 1) else match goC flag (sumsI l d e bt).1 lg with | none => (0, i + 1, 3) | some lg' => runW flag bt ls (e :: rest) (i + 1) lg' := by
  by_cases ho : overI l d e bt = true
  · simp [runW, ho]
  · simp only [Bool.not_eq_true] at ho
    cases hc : goC flag (sumsI l d e bt).1 lg <;> simp [runW, ho, hc]
theorem runW_just {less bt : Int} (h0 : 1 ≤ less) (h1 : less ≤ bt) : ∀ (ls : List LayV) (rows : List (List Int)) (i j lg lg' : Int), RowsOk ls j rows → 0 ≤ lg' → lg' ≤ lg → lg < 960 → (runW false bt ls rows i lg).2.2 = 0 →
    ∃ r r', runW true bt ls rows i lg = (r, 0, 0) ∧ (0 ≤ r ∧ r < 960) ∧ runW false less ls rows i lg' = (r', 0, 0) ∧ runW true less ls rows i lg' = (r', 0, 0) ∧ r' ≤ r
  | [], rows, i, j, lg, lg', _, g0, g1, g2, _ => ⟨lg, lg', by simp [runW], by omega, by simp [runW], by simp [runW], g1⟩
  | l :: ls, rows, i, j, lg, lg', hr, g0, g1, g2, h => by
    obtain ⟨d, e, rest, rfl, hm, hd, he, hr2⟩ := hr.cons
    rw [runW_eq] at h
    by_cases ho : overI l d e bt = true
    · rw [if_pos ho] at h
      simp at h
    · have ho : overI l d e bt = false := by simpa using ho
      have ho2 := over_le (i := j) hm hd he h0 h1 ho
      rw [if_neg (by rw [ho]; simp)] at h
      cases hg : goC false (sumsI l d e bt).1 lg with
      | none =>
        rw [hg] at h
        simp at h
      | some r1 =>
        rw [hg] at h
        simp only at h
        obtain ⟨r2, hg2, hle⟩ := goC_mono _ _ lg' lg r1 (sums_le (i := j) hm hd he h0 h1).1 g1 hg
        have hin := goC_in _ lg r1 (by omega) g2 hg
        have hin2 := goC_in _ lg' r2 g0 (by omega) hg2
        obtain ⟨r, r', q1, q2, q3, q4, q5⟩ := runW_just h0 h1 ls (e :: rest) (i + 1) (j + 1) r1 r2 hr2 hin2.1 hle hin.2 h
        refine ⟨r, r', ?_, q2, ?_, ?_, q5⟩
        · rw [runW_eq, if_neg (by rw [ho]; simp), goC_true _ _ _ hg]
          exact q1
        · rw [runW_eq, if_neg (by rw [ho2]; simp), hg2]
          exact q3
        · rw [runW_eq, if_neg (by rw [ho2]; simp), goC_true _ _ _ hg2]
          exact q4
theorem runW_ge {bt : Int} : ∀ (ls : List LayV) (rows : List (List Int)) (i j lg : Int), RowsOk ls j rows → (runW true bt ls rows i lg).1 = 0 ∨ lg ≤ (runW true bt ls rows i lg).1
  | [], rows, i, j, lg, _ => .inr (by simp [runW])
  | l :: ls, rows, i, j, lg, hr => by
    obtain ⟨d, e, rest, rfl, hm, hd, he, hr2⟩ := hr.cons
    rw [runW_eq]
    by_cases ho : overI l d e bt = true
    · rw [if_pos ho]
      exact .inl rfl
    · rw [if_neg ho]
      obtain ⟨r, h1, h2, h3⟩ := goC_ge (sumsI l d e bt).1 lg
      rw [h1]
      rcases runW_ge ls (e :: rest) (i + 1) (j + 1) r hr2 with h | h
      · exact .inl h
      · exact .inr (by simp only; omega)
theorem runW_bound {bt : Int} (h0 : 1 ≤ bt) : ∀ (ls : List LayV) (rows : List (List Int)) (i j lg : Int), RowsOk ls j rows → (runW false bt ls rows i lg).2.2 = 3 → (runW true bt ls rows i lg).1 = 0 ∨ 960 ≤ (runW true bt ls rows i lg).1
  | [], rows, i, j, lg, _, h => by simp [runW] at h
  | l :: ls, rows, i, j, lg, hr, h => by
    obtain ⟨d, e, rest, rfl, hm, hd, he, hr2⟩ := hr.cons
    rw [runW_eq] at h ⊢
    by_cases ho : overI l d e bt = true
    · rw [if_pos ho] at h
      simp at h
    · rw [if_neg ho] at h ⊢
      cases hg : goC false (sumsI l d e bt).1 lg with
      | none =>
        obtain ⟨c, hc, hf⟩ := goC_none _ _ hg
        have hn := sums_nonneg (i := j) hm hd he h0 c hc
        have hc9 : 960 ≤ c := by
          rcases Int.lt_or_le c 960 with h9 | h9
          · rw [(fits_iff c).2 ⟨hn, h9⟩] at hf
            cases hf
          · exact h9
        obtain ⟨r, h1, h2, h3⟩ := goC_ge (sumsI l d e bt).1 lg
        have := h3 c hc
        rw [h1]
        rcases runW_ge (bt := bt) ls (e :: rest) (i + 1) (j + 1) r hr2 with h4 | h4
        · exact .inl h4
        · exact .inr (by simp only; omega)
      | some r1 =>
        rw [hg] at h
        rw [goC_true _ _ _ hg]
        exact runW_bound h0 ls (e :: rest) (i + 1) (j + 1) r1 hr2 h

def longI2 (a b c : Int) (ls : List LayV) (batch : Int) : Int := if (shapesM a b c ls).2.2 ≠ 0 then 0 else (walkI true a b c ls ((lastI (shapesM a b c ls).1).headD 0) batch).1
theorem walkI_run {flag : Bool} {a b c : Int} {ls : List LayV} {cl bt : Int} (h : (walkI flag a b c ls cl bt).2.2 = 0 ∨ (walkI flag a b c ls cl bt).2.2 = 3) :
    ∃ all, shapesM a b c ls = (all, 0, 0) ∧ RowsOk ls 0 all ∧ boundsI cl bt = true ∧ lastI all = [cl] ∧ walkI flag a b c ls cl bt = runW flag bt ls all 0 0 := by
  rcases shapesM_cases a b c ls with ⟨hs, _⟩ | ⟨n, hs, _⟩ | ⟨all, hs, hok⟩
  · unfold walkI at h
    rw [hs] at h
    simp at h
  · unfold walkI at h
    rw [hs] at h
    simp at h
  · refine ⟨all, hs, ⟨(mayM_parts hok.may).2.2, hok.len, fun d hd => ?_⟩, ?_⟩
    · obtain ⟨k, hk⟩ := List.mem_iff_getElem?.1 hd
      exact hok.good k d hk
    · unfold walkI at h ⊢
      rw [hs] at h ⊢
      simp only [ne_eq, not_true_eq_false, if_false] at h ⊢
      by_cases h2 : boundsI cl bt = false
      · rw [if_pos h2] at h
        simp at h
      · rw [if_neg h2] at h ⊢
        by_cases h3 : lastI all = [cl]
        · rw [if_neg (by simp [h3])]
          exact ⟨by simpa using h2, h3, rfl⟩
        · rw [if_pos (by simpa using h3)] at h
          simp at h
theorem walkI_of {flag : Bool} {a b c : Int} {ls : List LayV} {cl bt : Int} {all : List (List Int)} (hs : shapesM a b c ls = (all, 0, 0)) (hb : boundsI cl bt = true) (hl : lastI all = [cl]) : walkI flag a b c ls cl bt = runW flag bt ls all 0 0 := by
  unfold walkI
  rw [hs]
  simp only [ne_eq, not_true_eq_false, if_false]
  rw [if_neg (by rw [hb]; simp), if_neg (by simp [hl])]
theorem long_of {a b c : Int} {ls : List LayV} {cl bt : Int} {all : List (List Int)} (hs : shapesM a b c ls = (all, 0, 0)) (hb : boundsI cl bt = true) (hl : lastI all = [cl]) : longI2 a b c ls bt = (runW true bt ls all 0 0).1 := by
  unfold longI2
  rw [hs]
  simp only [ne_eq, not_true_eq_false, if_false, hl, List.headD_cons]
  rw [walkI_of hs hb hl]
theorem bounds_less {cl bt less : Int} (h : boundsI cl bt = true) (h0 : 1 ≤ less) (h1 : less ≤ bt) : boundsI cl less = true := by
  unfold boundsI at h ⊢
  simp only [Bool.and_eq_true] at h ⊢
  have := inI_of h.2
  exact ⟨h.1, by unfold inI; simp; omega⟩
/-- let: the longest sum fits; with a lesser batch it is let, and no sum is longer -/
theorem just_ok {a b c : Int} {ls : List LayV} {cl bt less : Int} (h0 : 1 ≤ less) (h1 : less ≤ bt) (h : (walkI false a b c ls cl bt).2.2 = 0) :
    fitsI (longI2 a b c ls bt) = true ∧ (walkI false a b c ls cl less).2.2 = 0 ∧ longI2 a b c ls less ≤ longI2 a b c ls bt := by
  obtain ⟨all, hs, hr, hb, hl, hw⟩ := walkI_run (.inl h)
  rw [hw] at h
  obtain ⟨r, r', q1, q2, q3, q4, q5⟩ := runW_just h0 h1 ls all 0 0 0 0 hr (by omega) (by omega) (by omega) h
  have hb2 := bounds_less hb h0 h1
  rw [long_of hs hb hl, long_of hs hb2 hl, walkI_of hs hb2 hl, q1, q3, q4]
  exact ⟨(fits_iff r).2 q2, rfl, q5⟩
/-- too great: the longest sum does not fit, or there is none -/
theorem just_bound {a b c : Int} {ls : List LayV} {cl bt : Int} (h : (walkI false a b c ls cl bt).2.2 = 3) : longI2 a b c ls bt = 0 ∨ (longI2 a b c ls bt ≠ 0 ∧ fitsI (longI2 a b c ls bt) = false) := by
  obtain ⟨all, hs, hr, hb, hl, hw⟩ := walkI_run (.inr h)
  rw [hw] at h
  have hbt : 1 ≤ bt := by
    unfold boundsI at hb
    simp only [Bool.and_eq_true] at hb
    have := inI_of hb.2
    omega
  rw [long_of hs hb hl]
  rcases runW_bound hbt ls all 0 0 0 hr h with h2 | h2
  · exact .inl h2
  · refine .inr ⟨by omega, ?_⟩
    cases hf : fitsI (runW true bt ls all 0 0).1 with
    | false => rfl
    | true =>
      have := (fits_iff _).1 hf
      omega
theorem walk_err (flag : Bool) : ∀ (ls : List LayV) (bt : Int) (rows : List (List Int)) (i lg : Int), (runW flag bt ls rows i lg).2.2 = 0 ∨ (runW flag bt ls rows i lg).2.2 = 1 ∨ (runW flag bt ls rows i lg).2.2 = 3
  | [], bt, rows, i, lg => .inl (by simp [runW])
  | l :: ls, bt, rows, i, lg => by
    simp only [runW]
    split
    · exact .inr (.inl rfl)
    · split
      · exact .inr (.inr rfl)
      · exact walk_err flag ls bt _ _ _
end Go.Proofs.Ytkileiikffomlaa
