/- Nets: plain. What a layer may be, what it gives, what all give. -/
namespace Go.Proofs.Ytkileiikffomlaa
set_option linter.unusedVariables false
set_option linter.unusedSimpArgs false

/-- a layer -/
structure LayV where
  kind : Int
  out : Int
  k : Int
  stride : Int
  pad : Int
  frm : Int
  frozen : Bool
instance : Inhabited LayV := ⟨⟨0, 0, 0, 0, 0, 0, false⟩⟩
def inI (n lo hi : Int) : Bool := decide (lo ≤ n) && decide (n ≤ hi)
theorem inI_of {n lo hi : Int} (h : inI n lo hi = true) : lo ≤ n ∧ n ≤ hi := by
  unfold inI at h
  simpa using h
def windowI (l : LayV) : Bool := inI l.k 1 5 && inI l.stride 1 4
/-- the same in all but what is named -/
def sameL (a b : LayV) : Bool := (a.kind == b.kind) && ((a.out == b.out) && ((a.k == b.k) && ((a.stride == b.stride) && ((a.pad == b.pad) && ((a.frm == b.frm) && (a.frozen == b.frozen))))))
theorem sameL_iff (a b : LayV) : sameL a b = true ↔ a.kind = b.kind ∧ a.out = b.out ∧ a.k = b.k ∧ a.stride = b.stride ∧ a.pad = b.pad ∧ a.frm = b.frm ∧ a.frozen = b.frozen := by
  unfold sameL
  simp only [Bool.and_eq_true, beq_iff_eq]
/-- what of a layer counts, by its kind -/
def plainL (l : LayV) : LayV :=
  if l.kind = 1 then ⟨1, l.out, 0, 0, 0, 0, l.frozen⟩ else if l.kind = 2 then ⟨2, l.out, l.k, l.stride, l.pad, 0, l.frozen⟩ else if l.kind = 3 then ⟨3, 0, l.k, l.stride, 0, 0, false⟩
  else if l.kind = 4 then ⟨4, 0, l.k, l.stride, 0, 0, false⟩ else if l.kind = 5 then ⟨5, 0, 0, 0, 0, 0, false⟩ else if l.kind = 6 then ⟨6, 0, 0, 0, 0, 0, false⟩ else if l.kind = 7 then ⟨7, 0, 0, 0, 0, l.frm, false⟩ else ⟨l.kind, 0, 0, 0, 0, 0, false⟩
def okL (l : LayV) (ahead : Int) : Bool :=
  if l.kind = 1 then inI l.out 1 4096 else if l.kind = 2 then (inI l.out 1 8 && windowI l) && inI l.pad 0 (l.k - 1) else if l.kind = 3 then windowI l else if l.kind = 4 then windowI l
  else if l.kind = 5 then true else if l.kind = 6 then true else if l.kind = 7 then inI l.frm 0 (ahead - 1) else false
def mayL (l : LayV) (ahead : Int) : Bool := okL l ahead && sameL l (plainL l)
def mayLs : List LayV → Int → Bool
  | [], _ => true
  | l :: ls, i => mayL l i && mayLs ls (i + 1)
def entersI (a b c : Int) : Bool := (inI a 1 8 && inI b 1 16) && inI c 1 16
def mayM (a b c : Int) (ls : List LayV) : Bool := entersI a b c && (inI ls.length 1 12 && mayLs ls 0)
theorem mayLs_at : ∀ (ls : List LayV) (i : Int) (k : Nat) (l : LayV), mayLs ls i = true → ls[k]? = some l → mayL l (i + k) = true
  | [], _, k, l, _, h => by simp at h
  | x :: ls, i, 0, l, h, hk => by
    simp at hk
    subst hk
    simp only [mayLs, Bool.and_eq_true] at h
    simpa using h.1
  | x :: ls, i, k + 1, l, h, hk => by
    simp only [List.getElem?_cons_succ] at hk
    simp only [mayLs, Bool.and_eq_true] at h
    have := mayLs_at ls (i + 1) k l h.2 hk
    rw [show i + ((k + 1 : Nat) : Int) = i + 1 + k by omega]
    exact this
theorem mayLs_take : ∀ (ls : List LayV) (i : Int) (k : Nat) (l : LayV), ls[k]? = some l → mayLs (ls.take (k + 1)) i = (mayLs (ls.take k) i && mayL l (i + k))
  | [], _, k, l, h => by simp at h
  | x :: ls, i, 0, l, hk => by
    simp at hk
    subst hk
    simp [mayLs]
  | x :: ls, i, k + 1, l, hk => by
    simp only [List.getElem?_cons_succ] at hk
    have := mayLs_take ls (i + 1) k l hk
    simp only [List.take_succ_cons, mayLs, this]
    rw [show i + ((k + 1 : Nat) : Int) = i + 1 + k by omega, Bool.and_assoc]
theorem mayLs_false : ∀ (ls : List LayV) (i : Int) (k : Nat) (l : LayV), ls[k]? = some l → mayL l (i + k) = false → mayLs ls i = false
  | [], _, k, l, h, _ => by simp at h
  | x :: ls, i, 0, l, hk, h => by
    simp at hk
    subst hk
    simp only [mayLs]
    rw [show i = i + ((0 : Nat) : Int) by omega, h]
    rfl
  | x :: ls, i, k + 1, l, hk, h => by
    simp only [List.getElem?_cons_succ] at hk
    rw [show i + ((k + 1 : Nat) : Int) = i + 1 + k by omega] at h
    simp only [mayLs, mayLs_false ls (i + 1) k l hk h, Bool.and_false]

/-- how many windows fit -/
def outI (n k s p : Int) : Int := if (((inI n 1 16 && inI k 1 5) && inI s 1 4) && inI p 0 (k - 1)) && decide (k ≤ n + 2 * p) then (n + 2 * p - k) / s + 1 else 0
theorem outI_in (n k s p : Int) : 0 ≤ outI n k s p ∧ outI n k s p ≤ 20 := by
  unfold outI
  split
  · rename_i h
    simp only [Bool.and_eq_true, decide_eq_true_eq] at h
    obtain ⟨⟨⟨⟨h1, h2⟩, h3⟩, h4⟩, h5⟩ := h
    have h1 := inI_of h1
    have h2 := inI_of h2
    have h3 := inI_of h3
    have h4 := inI_of h4
    have a1 : 0 ≤ (n + 2 * p - k) / s := Int.ediv_nonneg (by omega) (by omega)
    have a2 : (n + 2 * p - k) / s ≤ n + 2 * p - k := Int.ediv_le_self _ (by omega)
    omega
  · omega
def planesI (d : List Int) (c : Int) (l : LayV) : Option (List Int) :=
  match d with
  | [_, a, b] => if outI a l.k l.stride l.pad = 0 ∨ outI b l.k l.stride l.pad = 0 then none else some [c, outI a l.k l.stride l.pad, outI b l.k l.stride l.pad]
  | _ => none
def prodI : List Int → Int
  | [] => 1
  | x :: l => x * prodI l
theorem prodI_snoc (x : Int) : ∀ l : List Int, prodI (l ++ [x]) = prodI l * x
  | [] => by simp [prodI]
  | y :: l => by simp only [List.cons_append, prodI, prodI_snoc x l, Int.mul_assoc]
/-- what a layer gives, of what all ahead of it gave, the last of them 'd' -/
def givesI (l : LayV) (all : List (List Int)) (d : List Int) : Option (List Int) :=
  if l.kind = 1 then (if d.length = 1 then some [l.out] else none) else if l.kind = 2 then planesI d l.out l else if l.kind = 3 then planesI d (d.headD 0) l else if l.kind = 4 then planesI d (d.headD 0) l
  else if l.kind = 5 then some d else if l.kind = 6 then some [prodI d] else if l.kind = 7 then (if all.getD l.frm.toNat [] = d then some d else none) else none
def shapesI : List LayV → List (List Int) → Int → List Int → List (List Int) × Int × Int
  | [], all, _, _ => (all, 0, 0)
  | l :: ls, all, i, d =>
    match givesI l all d with
    | none => ([], i + 1, 2)
    | some e => shapesI ls (all ++ [e]) (i + 1) e
def shapesM (a b c : Int) (ls : List LayV) : List (List Int) × Int × Int := if mayM a b c ls = true then shapesI ls [[a, b, c]] 0 [a, b, c] else ([], 0, 1)

/-- lengths that occur -/
def GoodD (d : List Int) : Prop := (∃ c p q, d = [c, p, q] ∧ 1 ≤ c ∧ c ≤ 8 ∧ 1 ≤ p ∧ p ≤ 20 ∧ 1 ≤ q ∧ q ≤ 20) ∨ (∃ n, d = [n] ∧ 1 ≤ n ∧ n ≤ 4096)
theorem mul3_in {c p q : Int} (h1 : 1 ≤ c) (h2 : c ≤ 8) (h3 : 1 ≤ p) (h4 : p ≤ 20) (h5 : 1 ≤ q) (h6 : q ≤ 20) : 1 ≤ c * (p * q) ∧ c * (p * q) ≤ 4096 := by
  have a1 : p * q ≤ 20 * 20 := Int.mul_le_mul h4 h6 (by omega) (by omega)
  have a2 : 1 * 1 ≤ p * q := Int.mul_le_mul h3 h5 (by omega) (by omega)
  have a3 : c * (p * q) ≤ 8 * 400 := Int.mul_le_mul h2 (by omega) (by omega) (by omega)
  have a4 : 1 * 1 ≤ c * (p * q) := Int.mul_le_mul h1 (by omega) (by omega) (by omega)
  omega
theorem GoodD.prod {d : List Int} (h : GoodD d) : 1 ≤ prodI d ∧ prodI d ≤ 4096 := by
  rcases h with ⟨c, p, q, rfl, h1, h2, h3, h4, h5, h6⟩ | ⟨n, rfl, h1, h2⟩
  · have := mul3_in h1 h2 h3 h4 h5 h6
    simpa [prodI] using this
  · simp [prodI]
    omega
theorem GoodD.pos {d : List Int} (h : GoodD d) : 0 < d.length ∧ d.length ≤ 3 := by
  rcases h with ⟨c, p, q, rfl, _⟩ | ⟨n, rfl, _⟩ <;> simp
theorem GoodD.bd {d : List Int} (h : GoodD d) : ∀ x ∈ d, 1 ≤ x ∧ x ≤ 4096 := by
  rcases h with ⟨c, p, q, rfl, h1, h2, h3, h4, h5, h6⟩ | ⟨n, rfl, h1, h2⟩
  · intro x hx
    simp at hx
    rcases hx with rfl | rfl | rfl <;> omega
  · intro x hx
    simp at hx
    subst hx
    omega
theorem planesI_good {d e : List Int} {c : Int} {l : LayV} (hc : 1 ≤ c) (hc8 : c ≤ 8) (h : planesI d c l = some e) : GoodD e := by
  unfold planesI at h
  split at h
  · split at h
    · cases h
    · rename_i x a b hz
      injection h with h
      subst h
      have h1 := outI_in a l.k l.stride l.pad
      have h2 := outI_in b l.k l.stride l.pad
      exact .inl ⟨_, _, _, rfl, hc, hc8, by omega, by omega, by omega, by omega⟩
  · cases h
theorem mayL_kind {l : LayV} {i : Int} (h : mayL l i = true) : 1 ≤ l.kind ∧ l.kind ≤ 7 := by
  unfold mayL at h
  simp only [Bool.and_eq_true] at h
  have h := h.1
  unfold okL at h
  repeat' split at h
  all_goals first | omega | (cases h)
theorem givesI_good {l : LayV} {i : Int} {all : List (List Int)} {d e : List Int} (hm : mayL l i = true) (hd : GoodD d) (h : givesI l all d = some e) : GoodD e := by
  have hk := mayL_kind hm
  unfold mayL at hm
  simp only [Bool.and_eq_true] at hm
  have ho := hm.1
  unfold okL at ho
  unfold givesI at h
  by_cases k1 : l.kind = 1
  · rw [if_pos k1] at h ho
    split at h
    · injection h with h
      subst h
      have := inI_of ho
      exact .inr ⟨_, rfl, by omega, by omega⟩
    · cases h
  · rw [if_neg k1] at h ho
    by_cases k2 : l.kind = 2
    · rw [if_pos k2] at h ho
      simp only [Bool.and_eq_true] at ho
      have := inI_of ho.1.1
      exact planesI_good this.1 this.2 h
    · rw [if_neg k2] at h ho
      have hhead : ∀ c : Int, planesI d c l = some e → c = d.headD 0 → GoodD e := by
        intro c hp hc
        rcases hd with ⟨c', p, q, rfl, h1, h2, h3, h4, h5, h6⟩ | ⟨n, rfl, h1, h2⟩
        · subst hc
          exact planesI_good h1 h2 hp
        · simp [planesI] at hp
      by_cases k3 : l.kind = 3
      · rw [if_pos k3] at h
        exact hhead _ h rfl
      · rw [if_neg k3] at h
        by_cases k4 : l.kind = 4
        · rw [if_pos k4] at h
          exact hhead _ h rfl
        · rw [if_neg k4] at h
          by_cases k5 : l.kind = 5
          · rw [if_pos k5] at h
            injection h with h
            subst h
            exact hd
          · rw [if_neg k5] at h
            by_cases k6 : l.kind = 6
            · rw [if_pos k6] at h
              injection h with h
              subst h
              have := hd.prod
              exact .inr ⟨_, rfl, by omega, by omega⟩
            · rw [if_neg k6] at h
              by_cases k7 : l.kind = 7
              · rw [if_pos k7] at h
                split at h
                · injection h with h
                  subst h
                  exact hd
                · cases h
              · omega
end Go.Proofs.Ytkileiikffomlaa
