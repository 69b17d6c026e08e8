/- Blocks known whole; slices that read as lists: small facts on memory, over any program. -/
import Derived.WalkKit
import Derived.WalkSmall
import Derived.Laws.OwnMore
import Derived.Deep.Draws
import Derived.Lib.Hide
namespace Go.Proofs.Ytjddplddpdcmdaa
open Go.RowKit
set_option linter.unusedVariables false
set_option linter.unusedSimpArgs false

/-- block g is just these cells, of element type t, and may be written -/
def Blk (w : World) (g : Nat) (t : TypeId) (cs : List Value) : Prop := w.heap[g]? = some (.cells cs.toArray t (0, 0))
section
variable {w w' : World} {g : Nat} {t : TypeId} {cs : List Value}
theorem Blk.lt (h : Blk w g t cs) : g < w.heap.size := by
  unfold Blk at h
  exact (Array.getElem?_eq_some_iff.1 h).1
theorem Blk.cell (h : Blk w g t cs) (i : Nat) : w.cell? ⟨g, i, none⟩ = cs[i]? := by
  unfold Blk at h
  simp [World.cell?, h]
theorem Blk.free (h : Blk w g t cs) (i : Nat) : w.frozen? ⟨g, i, none⟩ = false := by
  unfold Blk at h
  simp [World.frozen?, h]
theorem Blk.fresh (w : World) (t : TypeId) (cs : List Value) : Blk (w.alloc (.cells cs.toArray t)) w.heap.size t cs := heap_alloc_new w _
theorem Blk.freshA (w : World) (t : TypeId) (cs : Array Value) : Blk (w.alloc (.cells cs t)) w.heap.size t cs.toList := heap_alloc_new w _
theorem Blk.drew (h : Blk w g t cs) : Blk w.drew g t cs := h
theorem Blk.drewN (h : Blk w g t cs) (n : Nat) : Blk (w.drewN n) g t cs := h
theorem Blk.alloc (h : Blk w g t cs) (o : Obj) : Blk (w.alloc o) g t cs := (Below.heap_alloc w o g h.lt).trans h
theorem Blk.put (h : Blk w g t cs) (i : Nat) (u : Value) : Blk (w.setCell ⟨g, i, none⟩ u) g t (cs.set i u) := by
  unfold Blk at h ⊢
  simp [World.setCell, Array.getElem?_modify, h]
theorem Blk.far (h : Blk w g t cs) {p : Addr} (hp : g ≠ p.block) (u : Value) : Blk (w.setCell p u) g t cs := (Below.heap_setCell w p u g hp).trans h
theorem Blk.below {B : Nat} (h : Blk w g t cs) (hb : Below B w w') (hg : g < B) : Blk w' g t cs := (hb.block g hg).trans h
theorem Blk.grown {row : Option Nat} (h : Blk w g t cs) (hb : w.grownBy w' row) (hg : some g ≠ row) : Blk w' g t cs := (hb.block g h.lt hg).trans h
theorem Blk.own {base size n cap : Nat} (h : Blk w g t cs) (hb : base ≤ g) (hn : n ≤ cap) (hc : cap ≤ maxLen) (hs : cs.length = cap * size) :
    w.ownsRow base t size (.slice (some ⟨g, 0, none⟩) n cap) n (cs.take (n * size)) := by
  refine ⟨?_, .inr ⟨g, cap, cs.toArray, rfl, hb, h, hn, hc, by simpa using hs, by simp⟩⟩
  rw [List.length_take, hs]
  have := Nat.mul_le_mul_right size hn
  omega
theorem Blk.ownAll {base n : Nat} (h : Blk w g t cs) (hb : base ≤ g) (hc : n ≤ maxLen) (hs : cs.length = n) :
    w.ownsRow base t 1 (.slice (some ⟨g, 0, none⟩) n n) n cs := by
  have := h.own (size := 1) hb (Nat.le_refl n) hc (by omega)
  rwa [List.take_of_length_le (by omega)] at this
end

/-- truths as cells -/
def bools (xs : List Bool) : List Value := xs.map Value.bool
theorem bools_at (xs : List Bool) (i : Nat) (h : i < xs.length) : (bools xs)[i]? = some (.bool xs[i]) := by simp [bools, h]
theorem bools_set (xs : List Bool) (i : Nat) (x : Bool) : (bools xs).set i (.bool x) = bools (xs.set i x) := by simp [bools, List.map_set]
/-- numbers as cells -/
def ints (k : IntKind) (xs : List Int) : List Value := xs.map (Value.int k)
theorem length_ints (k : IntKind) (xs : List Int) : (ints k xs).length = xs.length := by simp [ints]
theorem ints_at (k : IntKind) (xs : List Int) (i : Nat) (h : i < xs.length) : (ints k xs)[i]? = some (.int k xs[i]) := by simp [ints, h]
theorem ints_set (k : IntKind) (xs : List Int) (i : Nat) (x : Int) : (ints k xs).set i (.int k x) = ints k (xs.set i x) := by simp [ints, List.map_set]
theorem ints_append (k : IntKind) (xs ys : List Int) : ints k xs ++ ints k ys = ints k (xs ++ ys) := by simp [ints]
theorem ints_one (k : IntKind) (xs : List Int) : ∀ u ∈ ints k xs, u.oneCell' = true := ints_oneCell k xs

/-- the slice value 'v' has these cells (each element one cell), below block B -/
def Reads (w : World) (B : Nat) (v : Value) (xs : List Value) : Prop :=
  ∃ A n c, v = .slice A n c ∧ xs.length = n ∧ n ≤ c ∧ c ≤ maxLen ∧ Hid (0 < n → ∃ g o, A = some ⟨g, o, none⟩ ∧ g < B ∧ ∀ j u, xs[j]? = some u → w.cell? ⟨g, o + j, none⟩ = some u)
theorem Reads.nil_ (w : World) (B : Nat) : Reads w B (.slice none 0 0) [] := ⟨none, 0, 0, rfl, rfl, by omega, by unfold maxLen; omega, fun h => absurd h (by omega)⟩
section
variable {w w' : World} {B B' : Nat} {v : Value} {xs : List Value}
theorem Reads.keep (h : Reads w B v xs) (hk : ∀ p : Addr, p.block < B → w'.cell? p = w.cell? p) : Reads w' B v xs := by
  obtain ⟨A, n, c, e, hl, hc, hm, ha⟩ := h
  refine ⟨A, n, c, e, hl, hc, hm, fun hn => ?_⟩
  obtain ⟨g, o, hA, hg, hx⟩ := ha.out hn
  exact ⟨g, o, hA, hg, fun j u hu => (hk _ hg).trans (hx j u hu)⟩
theorem Reads.below (h : Reads w B v xs) (hb : Below B w w') : Reads w' B v xs := h.keep fun _ hp => hb.cell hp
theorem Reads.more (h : Reads w B v xs) (hB : B ≤ B') : Reads w B' v xs := by
  obtain ⟨A, n, c, e, hl, hc, hm, ha⟩ := h
  refine ⟨A, n, c, e, hl, hc, hm, fun hn => ?_⟩
  obtain ⟨g, o, hA, hg, hx⟩ := ha.out hn
  exact ⟨g, o, hA, by omega, hx⟩
theorem Reads.alloc (h : Reads w B v xs) (hB : B ≤ w.heap.size) (o : Obj) : Reads (w.alloc o) B v xs := h.keep fun p hp => World.cell?_of_block (Below.heap_alloc w o p.block (by omega))
theorem Reads.drew (h : Reads w B v xs) : Reads w.drew B v xs := h
theorem Reads.drewN (h : Reads w B v xs) (k : Nat) : Reads (w.drewN k) B v xs := h
theorem Reads.form (h : Reads w B v xs) : ∃ A c, v = .slice A xs.length c ∧ xs.length ≤ c ∧ c ≤ maxLen := by
  obtain ⟨A, n, c, e, hl, hc, hm, _⟩ := h
  subst hl
  exact ⟨A, c, e, hc, hm⟩
theorem Reads.of_own {base : Nat} {e : TypeId} {n : Nat} (h : w.ownsRow base e 1 v n xs) : Reads w w.heap.size v xs := by
  obtain ⟨hl, h⟩ := h
  rcases h with ⟨rfl, rfl⟩ | ⟨g, cap, cur, rfl, hb, hh, hn, hm, hs, hx⟩
  · have : xs = [] := List.eq_nil_of_length_eq_zero (by omega)
    subst this
    exact Reads.nil_ _ _
  · refine ⟨_, _, _, rfl, by omega, hn, hm, fun h0 => ⟨g, 0, rfl, (Array.getElem?_eq_some_iff.1 hh).1, fun j u hu => ?_⟩⟩
    simp only [World.cell?, hh]
    rw [← hx] at hu
    rw [List.getElem?_take] at hu
    split at hu
    · simpa using hu
    · cases hu
end

/-- an owned row, not empty: its block, known whole -/
theorem own_blk {w : World} {base : Nat} {e : TypeId} {v : Value} {n : Nat} {xs : List Value} (h : w.ownsRow base e 1 v n xs) (hn : 0 < n) :
    ∃ g cap rest, v = .slice (some ⟨g, 0, none⟩) n cap ∧ base ≤ g ∧ g < w.heap.size ∧ n ≤ cap ∧ cap ≤ maxLen ∧ rest.length = cap - n ∧ xs.length = n ∧ Blk w g e (xs ++ rest) := by
  obtain ⟨hl, h⟩ := h
  rcases h with ⟨rfl, rfl⟩ | ⟨g, cap, cur, rfl, hb, hh, hc, hm, hs, hx⟩
  · omega
  · refine ⟨g, cap, cur.toList.drop n, rfl, hb, (Array.getElem?_eq_some_iff.1 hh).1, hc, hm, by simp; omega, by omega, ?_⟩
    unfold Blk
    rw [hh, ← hx]
    simp
theorem Blk.ownFit {w : World} {g : Nat} {t : TypeId} {xs rest : List Value} {base n cap : Nat} (h : Blk w g t (xs ++ rest)) (hb : base ≤ g) (hn : n ≤ cap) (hc : cap ≤ maxLen) (hx : xs.length = n) (hr : rest.length = cap - n) :
    w.ownsRow base t 1 (.slice (some ⟨g, 0, none⟩) n cap) n xs := by
  have h2 := h.own (size := 1) hb hn hc (by simp; omega)
  rwa [Nat.mul_one, List.take_left' hx] at h2

/-- n cells alike -/
def zerosA (z : Value) (n : Nat) : Array Value := (List.replicate n z).toArray
theorem zerosA_toList (z : Value) (n : Nat) : (zerosA z n).toList = List.replicate n z := by simp [zerosA]
/-- make([]T, n), T of one cell -/
theorem run_make1 {P : Program} (t e : TypeId) (i : TypeInfo) (z : Value) (ht : P.underlying t = some (.slice e)) (hi : P.info? e = some i) (hz : i.zero = some z) (hs : i.size = 1) (hzc : z.cells = #[z])
    (kl kc : IntKind) (n : Nat) (hb : i.bytes * n ≤ 281474976710656) (h63 : n ≤ 9223372036854775807) (w : World) :
    (Instr.makeSlice t (.int kl (n : Int)) (.int kc (n : Int))).run P w = .ok (.slice (some ⟨w.heap.size, 0, none⟩) n n) (w.alloc (.cells (zerosA z n) e)) := by
  have hb' : (i.bytes : Int) * (n : Int) ≤ 281474976710656 := by
    have h : ((i.bytes * n : Nat) : Int) ≤ 281474976710656 := by omega
    rwa [Int.natCast_mul] at h
  have hr := run_make (P := P) w t e i z ht hi hz kl kc n n (by omega) (Int.le_refl _) hb' (by omega)
  simp only [Int.toNat_natCast] at hr
  rw [hr, hzc, hs, Nat.mul_one]
  have : madeCells #[z] n = zerosA z n := by
    apply Array.toList_inj.1
    rw [toList_madeCells_one, zerosA_toList]
  rw [this]
/-- the call only reads -/
def Quiet (w : World) (r : Value) (e : Ending) (w' : World) : Prop := e = .returned r ∧ ∃ n, w' = w.drewN n
theorem Quiet.mk' {w : World} {r : Value} (n : Nat) : Quiet w r (.returned r) (w.drewN n) := ⟨rfl, n, rfl⟩

theorem Quiet.mk2 {w : World} {r : Value} (n m : Nat) : Quiet w r (.returned r) ((w.drewN n).drewN m) := ⟨rfl, n + m, World.drewN_drewN ..⟩
end Go.Proofs.Ytjddplddpdcmdaa
