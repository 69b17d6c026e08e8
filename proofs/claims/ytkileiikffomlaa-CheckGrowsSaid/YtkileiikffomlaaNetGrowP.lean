/- Nets: plain. What each layer gives hangs on those up to it; a layer that changes no shape. -/
import Derived.Test.YtkileiikffomlaaNetPlain2
namespace Go.Proofs.Ytkileiikffomlaa
set_option linter.unusedVariables false

theorem shapesI_take : ∀ (ls : List LayV) (all : List (List Int)) (i : Int) (d : List Int) (X : List (List Int)), shapesI ls all i d = (X, 0, 0) → ∀ k, k ≤ ls.length → shapesI (ls.take k) all i d = (X.take (all.length + k), 0, 0)
  | [], all, i, d, X, h, k, hk => by
    simp only [shapesI, Prod.mk.injEq, and_true] at h
    subst h
    simp at hk
    subst hk
    simp [shapesI]
  | l :: ls, all, i, d, X, h, 0, _ => by
    rcases shapesI_cases (l :: ls) all i d with ⟨n, h1, _⟩ | ⟨rest, h1, h2⟩
    · rw [h1] at h
      simp at h
    · rw [h1] at h
      injection h with h
      subst h
      simp [shapesI]
  | l :: ls, all, i, d, X, h, k + 1, hk => by
    rw [List.take_succ_cons]
    rcases shapesI_step l ls all i d with ⟨_, h1⟩ | ⟨e, hg, h1⟩
    · rw [h1] at h
      simp at h
    · rw [h1] at h
      have ih := shapesI_take ls (all ++ [e]) (i + 1) e X h k (by simpa using hk)
      rcases shapesI_step l (ls.take k) all i d with ⟨hn, _⟩ | ⟨e', hg', h1'⟩
      · rw [hg] at hn
        cases hn
      · rw [hg] at hg'
        injection hg' with hg'
        subst hg'
        rw [h1', ih]
        congr 2
        simp
        omega
theorem shapesI_relu (f : Bool) : ∀ (ls : List LayV) (all : List (List Int)) (i : Int) (d : List Int) (X : List (List Int)), shapesI ls all i d = (X, 0, 0) → all.getLast? = some d → ∃ e, X.getLast? = some e ∧ shapesI (ls ++ [⟨5, 0, 0, 0, 0, 0, f⟩]) all i d = (X ++ [e], 0, 0)
  | [], all, i, d, X, h, hd => by
    simp only [shapesI, Prod.mk.injEq, and_true] at h
    subst h
    exact ⟨d, hd, by simp [shapesI, givesI]⟩
  | l :: ls, all, i, d, X, h, hd => by
    rcases shapesI_step l ls all i d with ⟨_, h1⟩ | ⟨e, hg, h1⟩
    · rw [h1] at h
      simp at h
    · rw [h1] at h
      obtain ⟨e2, h3, h4⟩ := shapesI_relu f ls (all ++ [e]) (i + 1) e X h (by simp)
      refine ⟨e2, h3, ?_⟩
      rw [List.cons_append]
      rcases shapesI_step l (ls ++ [⟨5, 0, 0, 0, 0, 0, f⟩]) all i d with ⟨hn, _⟩ | ⟨e', hg', h1'⟩
      · rw [hg] at hn
        cases hn
      · rw [hg] at hg'
        injection hg' with hg'
        subst hg'
        rw [h1', h4]
theorem mayLs_pre : ∀ (ls : List LayV) (i : Int) (k : Nat), mayLs ls i = true → mayLs (ls.take k) i = true
  | [], _, k, _ => by simp [mayLs]
  | l :: ls, i, 0, _ => by simp [mayLs]
  | l :: ls, i, k + 1, h => by
    simp only [mayLs, Bool.and_eq_true] at h
    simp only [List.take_succ_cons, mayLs, Bool.and_eq_true]
    exact ⟨h.1, mayLs_pre ls (i + 1) k h.2⟩
theorem mayLs_relu : ∀ (ls : List LayV) (i : Int), mayLs ls i = true → mayLs (ls ++ [⟨5, 0, 0, 0, 0, 0, false⟩]) i = true
  | [], i, _ => by simp [mayLs, mayL, okL, sameL, plainL]
  | l :: ls, i, h => by
    simp only [mayLs, Bool.and_eq_true] at h
    simp only [List.cons_append, mayLs, Bool.and_eq_true]
    exact ⟨h.1, mayLs_relu ls (i + 1) h.2⟩
theorem inI_len {n : Nat} (h1 : 1 ≤ n) (h2 : n ≤ 12) : inI (n : Int) 1 12 = true := by
  unfold inI
  simp
  omega
theorem shapesM_take {a b c : Int} {ls : List LayV} {all : List (List Int)} (h : shapesM a b c ls = (all, 0, 0)) (hm : mayM a b c ls = true) {k : Nat} (h1 : 1 ≤ k) (h2 : k ≤ ls.length) : shapesM a b c (ls.take k) = (all.take (k + 1), 0, 0) := by
  obtain ⟨g1, g2, g3⟩ := mayM_parts hm
  have hm2 : mayM a b c (ls.take k) = true := by
    unfold mayM
    rw [g1, mayLs_pre ls 0 k g3, inI_len (by simp; omega) (by simp; omega)]
    rfl
  unfold shapesM at h ⊢
  rw [if_pos hm] at h
  rw [if_pos hm2]
  have := shapesI_take ls _ 0 _ all h k h2
  rw [this]
  congr 2
  simp
  omega
theorem mayM_relu {a b c : Int} {ls : List LayV} (hm : mayM a b c ls = true) (h12 : ls.length < 12) : mayM a b c (ls ++ [⟨5, 0, 0, 0, 0, 0, false⟩]) = true := by
  obtain ⟨g1, g2, g3⟩ := mayM_parts hm
  unfold mayM
  rw [g1, mayLs_relu ls 0 g3, inI_len (by simp) (by simp; omega)]
  rfl
theorem shapesM_relu {a b c : Int} {ls : List LayV} {all : List (List Int)} (h : shapesM a b c ls = (all, 0, 0)) (hm : mayM a b c ls = true) (h12 : ls.length < 12) :
    ∃ e, all.getLast? = some e ∧ shapesM a b c (ls ++ [⟨5, 0, 0, 0, 0, 0, false⟩]) = (all ++ [e], 0, 0) := by
  have hm2 := mayM_relu hm h12
  unfold shapesM at h ⊢
  rw [if_pos hm] at h
  rw [if_pos hm2]
  exact shapesI_relu false ls _ 0 _ all h rfl
end Go.Proofs.Ytkileiikffomlaa
