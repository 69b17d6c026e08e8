/- Arguments opened: slices of whatever elements, as lists. -/
import Derived.Test.YtjddplddpdcmdaaBytes
import Derived.Deep.Slices
import Derived.Deep.Fields
import Derived.Lib.SmallJoins
import Derived.ProofKit
import Derived.SizedLaws
namespace Go.Proofs.Ytjddplddpdcmdaa
open Go.ChangeShapes Go.WideShapes Go.ChangeAt Go.RowKit Go.Deep
set_option linter.unusedVariables false
set_option linter.unusedSimpArgs false

/-- the slice value 'v' has these cells, 'size' an element, below block B -/
def ReadsN (size : Nat) (w : World) (B : Nat) (v : Value) (xs : List Value) : Prop :=
  ∃ A n c, v = .slice A n c ∧ xs.length = n * size ∧ n ≤ c ∧ c ≤ maxLen ∧ Hid (0 < n → ∃ g o, A = some ⟨g, o, none⟩ ∧ g < B ∧ ∀ j u, xs[j]? = some u → w.cell? ⟨g, o + j, none⟩ = some u)
theorem ReadsN.one {w : World} {B : Nat} {v : Value} {xs : List Value} (h : ReadsN 1 w B v xs) : Reads w B v xs := by
  obtain ⟨A, n, c, e, hl, hc, hm, ha⟩ := h
  exact ⟨A, n, c, e, by omega, hc, hm, ha⟩
theorem ReadsN.keep {size : Nat} {w w' : World} {B : Nat} {v : Value} {xs : List Value} (h : ReadsN size w B v xs) (hk : ∀ p : Addr, p.block < B → w'.cell? p = w.cell? p) : ReadsN size w' B v xs := by
  obtain ⟨A, n, c, e, hl, hc, hm, ha⟩ := h
  refine ⟨A, n, c, e, hl, hc, hm, fun hn => ?_⟩
  obtain ⟨g, o, hA, hg, hx⟩ := ha.out hn
  exact ⟨g, o, hA, hg, fun j u hu => (hk _ hg).trans (hx j u hu)⟩
theorem ReadsN.below {size : Nat} {w w' : World} {B : Nat} {v : Value} {xs : List Value} (h : ReadsN size w B v xs) (hb : Below B w w') : ReadsN size w' B v xs := h.keep fun _ hp => hb.cell hp

theorem flat_length {α β : Type} (f : α → List β) (size : Nat) : ∀ l : List α, (∀ p ∈ l, (f p).length = size) → (l.flatMap f).length = l.length * size
  | [], _ => by simp
  | p :: l, h => by
    rw [List.flatMap_cons, List.length_append, h p (by simp), flat_length f size l (fun q hq => h q (by simp [hq])), List.length_cons, Nat.succ_mul, Nat.add_comm]
/-- the jth cell of the ith -/
theorem flat_at {α β : Type} (f : α → List β) (size : Nat) : ∀ (l : List α), (∀ p ∈ l, (f p).length = size) → ∀ (i j : Nat) (p : α), l[i]? = some p → j < size → (l.flatMap f)[i * size + j]? = (f p)[j]?
  | [], _, i, j, p, hp, _ => by simp at hp
  | q :: l, h, i, j, p, hp, hj => by
    have hq := h q (by simp)
    rw [List.flatMap_cons]
    cases i with
    | zero =>
      simp at hp
      subst hp
      rw [Nat.zero_mul, Nat.zero_add, List.getElem?_append_left (by omega)]
    | succ i =>
      simp at hp
      rw [List.getElem?_append_right (by rw [hq, Nat.succ_mul]; omega), hq, ← flat_at f size l (fun r hr => h r (by simp [hr])) i j p hp hj]
      congr 1
      rw [Nat.succ_mul]; omega
/-- .. and back -/
theorem flat_of {α β : Type} (f : α → List β) (size : Nat) (l : List α) (hl : ∀ p ∈ l, (f p).length = size) (hs : 0 < size) (k : Nat) (u : β) (h : (l.flatMap f)[k]? = some u) :
    ∃ p, l[k / size]? = some p ∧ (f p)[k % size]? = some u := by
  have hk : k < l.length * size := by
    rw [← flat_length f size l hl]
    exact (List.getElem?_eq_some_iff.1 h).1
  have hi : k / size < l.length := Nat.div_lt_of_lt_mul (by rw [Nat.mul_comm]; exact hk)
  refine ⟨l[k / size], List.getElem?_eq_getElem hi, ?_⟩
  rw [← flat_at f size l hl (k / size) (k % size) _ (List.getElem?_eq_getElem hi) (Nat.mod_lt _ hs), ← h]
  congr 1
  rw [Nat.mul_comm, Nat.div_add_mod]

section
variable {H : Type} {enc : TypeId × Value → H} {P : Program} {w : World} {base : Nat} {spare : Nat → Bool} {held : Bool}
theorem weights_elem {d : DataW H} {e : TypeId} : ∀ {l : List (DataW H)}, d ∈ l → ∀ k ∈ d.weights P e, k ∈ DataW.weightsAll P e l
  | [], h, _, _ => by cases h
  | x :: l, h, k, hk => by
    rw [DataW.weightsAll, List.mem_append]
    rcases List.mem_cons.1 h with rfl | h
    · exact .inl hk
    · exact .inr (weights_elem h k hk)
theorem dec_slice {t e : TypeId} {fuel : Nat} {v : Value} {x : DataW H × List MemPlace} {α : Type} [Inhabited α] (R : List Value → α → Prop) (ht : P.underlying t = some (.slice e)) (hsz : 0 < P.cellsOf e)
    (hel : ∀ (n : Nat) (cs : List Value) (y : DataW H × List MemPlace), DataW.trod enc P w base spare held n e cs = some y → (∀ k ∈ y.1.weights P e, k ≤ reachBytes) → ∃ a, R cs a)
    (h : DataW.trod enc P w base spare held fuel t [v] = some x) (hwt : ∀ k ∈ x.1.weights P t, k ≤ reachBytes) :
    ∃ l : List (List Value × α), ReadsN (P.cellsOf e) w w.heap.size v (l.flatMap (·.1)) ∧ (∀ p ∈ l, R p.1 p.2 ∧ p.1.length = P.cellsOf e) ∧ (∃ A c, v = .slice A l.length c) ∧ l.length * P.bytesOf e ≤ reachBytes := by
  rcases open_slice ht h with ⟨hcs, hx⟩ | ⟨a, len, cap, m, n, D, Pl, hcs, hb, hl, hm, hmm, hx, hi⟩
  · injection hcs with hcs
    subst hcs
    exact ⟨[], ⟨none, 0, 0, rfl, by simp, by omega, by unfold maxLen; omega, Lib.hid (fun hn => absurd hn (by omega))⟩, by simp, ⟨_, _, rfl⟩, by simp⟩
  · injection hcs with hcs
    subst hcs
    have hlm : len ≤ m := by rw [hmm]; split <;> omega
    have hw2 : (len + (m - len)) * P.bytesOf e ≤ reachBytes ∧ ∀ i, i < len → ∀ k ∈ (D i).weights P e, k ≤ reachBytes := by
      rw [hx] at hwt
      simp only [DataW.weights, ht, List.length_map, List.length_range, List.mem_cons, List.mem_append] at hwt
      refine ⟨hwt _ (.inl rfl), fun i hil k hk => hwt k (.inr (.inl (weights_elem (d := D i) ?_ k hk)))⟩
      exact List.mem_map.2 ⟨i, List.mem_range.2 hil, rfl⟩
    have hone : ∀ i, i < len → ∃ p : List Value × α, w.cells? base (a.add (i * P.cellsOf e)) (P.cellsOf e) = some p.1 ∧ R p.1 p.2 := by
      intro i hil
      obtain ⟨cs', hc, ht'⟩ := hi i (by omega)
      obtain ⟨al, hal⟩ := hel n cs' _ ht' (hw2.2 i hil)
      exact ⟨(cs', al), hc, hal⟩
    obtain ⟨f, hf⟩ := choose_lt hone
    have hlen : ∀ i, i < len → (f i).1.length = P.cellsOf e := fun i hil => (World.cells?_some (hf i hil).1).2.1
    have hall : ∀ p ∈ (List.range len).map f, R p.1 p.2 ∧ p.1.length = P.cellsOf e := by
      intro p hp
      obtain ⟨i, hir, rfl⟩ := List.mem_map.1 hp
      have hil := List.mem_range.1 hir
      exact ⟨(hf i hil).2, hlen i hil⟩
    refine ⟨(List.range len).map f, ⟨some a, len, cap, rfl, ?_, hl, hm, Lib.hid (fun hn => ?_)⟩, hall, ⟨some a, cap, by simp⟩, ?_⟩
    · rw [flat_length (·.1) (P.cellsOf e) _ (fun p hp => (hall p hp).2)]; simp
    · have h0 := World.cells?_some (hf 0 hn).1
      have hc0 := h0.2.2 0 hsz
      rw [List.getElem?_eq_getElem (by omega)] at hc0
      obtain ⟨b, o, spot⟩ := a
      have hspot : spot = none := by simpa [Addr.add] using World.cell?_spot hc0
      subst hspot
      refine ⟨b, o, rfl, ?_, fun j u hu => ?_⟩
      · have := World.block_lt_of_cell? w _ hc0
        simpa [Addr.add] using this
      · obtain ⟨p, hp, hpu⟩ := flat_of (·.1) (P.cellsOf e) _ (fun p hp => (hall p hp).2) hsz j u hu
        rw [List.getElem?_map] at hp
        have hil : j / P.cellsOf e < len := by
          rcases Nat.lt_or_ge (j / P.cellsOf e) len with h1 | h1
          · exact h1
          · rw [List.getElem?_eq_none (by simpa using h1)] at hp; simp at hp
        rw [List.getElem?_range hil] at hp
        simp at hp
        subst hp
        have hc := (World.cells?_some (hf _ hil).1).2.2 (j % P.cellsOf e) (Nat.mod_lt _ hsz)
        rw [hpu, addr_add, addr_add] at hc
        rw [← hc]
        congr 2
        have := Nat.div_add_mod j (P.cellsOf e)
        rw [Nat.mul_comm] at this
        omega
    · simp only [List.length_map, List.length_range]
      have := hw2.1
      have h2 : len * P.bytesOf e ≤ (len + (m - len)) * P.bytesOf e := Nat.mul_le_mul_right _ (by omega)
      omega
end
end Go.Proofs.Ytjddplddpdcmdaa
