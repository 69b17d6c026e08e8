/- Two tensors laid out of rows: what stands, plainly. -/
import Derived.Test.YthdahnjghpiheaaAwake14
import Derived.Test.YthdahnjghpiheaaSameAcc
import Derived.Deep.DeepCutAuto
import Derived.Laws.Cover1
namespace Go.Proofs.Ythdahnjghpiheaa
open Go.RowKit
set_option linter.unusedVariables false

theorem run_max_keep8 {P : Program} {w : World} (ts : Array TypeId) (t : TypeId) (x y : Int) : (Builtin.max_ ts t #[.int .i8 x, .int .i8 y]).run P w = .ok (.int .i8 (max x y)) w := by
  rw [run_max_int2]
  congr 2
  omega
theorem run_min_keep3 {P : Program} {w : World} (ts : Array TypeId) (t : TypeId) (x y z : Int) : (Builtin.min_ ts t #[.int .i64 x, .int .i64 y, .int .i64 z]).run P w = .ok (.int .i64 (min (min x y) z)) w := by
  rw [run_min_int3]
  congr 2
  omega
/-- what is laid -/
def laidI (l : List Int) (n : Nat) : List Int := (l.take n).map (fun x => max x (-127))
theorem laid_length (l : List Int) (n : Nat) (h : n ≤ l.length) : (laidI l n).length = n := by
  unfold laidI; rw [List.length_map, List.length_take]; omega
theorem laid_at {l : List Int} {n k : Nat} {u : Int} (hk : k < n) (h : l[k]? = some u) : (laidI l n)[k]? = some (max u (-127)) := by
  unfold laidI
  rw [List.getElem?_map, List.getElem?_take, if_pos hk, h]
  rfl
theorem laid_in {l : List Int} {n : Nat} (h : ∀ x ∈ l, -128 ≤ x ∧ x ≤ 127) : ∀ x ∈ laidI l n, -127 ≤ x ∧ x ≤ 127 := by
  intro x hx
  unfold laidI at hx
  obtain ⟨y, hy, rfl⟩ := List.mem_map.1 hx
  have := h y (List.mem_of_mem_take hy)
  omega
theorem may_laid {l : List Int} {n : Nat} {e : Int} (h : ∀ x ∈ l, -128 ≤ x ∧ x ≤ 127) (hn : 1 ≤ n) (h3 : n ≤ 300) (hl : n ≤ l.length) (e0 : -64 ≤ e) (e1 : e ≤ 64) : mayB [(n : Int)] e (laidI l n) = true := by
  have hs : sizeI [(n : Int)] = (n : Int) := by
    unfold sizeI
    rw [if_neg (by simp)]
    simp only [sizeGo]
    rw [if_neg (by omega)]
    omega
  unfold mayB
  rw [hs, laid_length l n hl]
  simp only [Bool.and_eq_true, decide_eq_true_eq, beq_iff_eq, Bool.not_eq_true']
  refine ⟨by omega, trivial, e0, e1, ?_⟩
  simp only [List.contains_eq_mem, decide_eq_false_iff_not]
  intro hc
  have := laid_in (n := n) h _ hc
  omega
theorem set_next {xs la : List Int} {k : Nat} {v : Int} (h : xs.take k = la.take k) (hv : la[k]? = some v) (hl : xs.length = la.length) : (xs.set k v).take (k + 1) = la.take (k + 1) := by
  have hk := (List.getElem?_eq_some_iff.1 hv).1
  rw [List.take_add_one, List.take_add_one, hv]
  rw [List.take_set_of_le (Nat.le_refl k), h]
  congr 1
  rw [List.getElem?_set_self (by omega)]

theorem align_le (v b : Int) (h : 0 ≤ b) : alignI v b = v * 2 ^ b.toNat := by unfold alignI; rw [if_neg (by omega)]
theorem addE_comm (a b : Int) : addE a b = addE b a := by unfold addE; omega
theorem addI_comm (ea eb : Int) : ∀ xs ys : List Int, addI ea eb xs ys = addI eb ea ys xs
  | [], [] => rfl
  | [], _ :: _ => rfl
  | _ :: _, [] => rfl
  | x :: xs, y :: ys => by
    simp only [addI]
    rw [addI_comm ea eb xs ys, addE_comm ea eb, Int.add_comm]
theorem tmod_in (a m : Int) (h : 0 < m) : -m < a.tmod m ∧ a.tmod m < m := by
  have h1 := Int.tmod_lt_of_pos a h
  have h2 := Int.tmod_lt_of_pos (-a) h
  rw [Int.neg_tmod] at h2
  omega

structure FillI (w : World) (b n : Nat) (ea eb : Int) (xs ys : List Int) (wr : World) : Prop where
  d1 : Blk wr b 3 (ints .i64 [(n : Int)])
  x1 : Blk wr (b + 1) 34 (ints .i8 xs)
  t1 : Blk wr (b + 2) 25 [.slice (some ⟨b, 0, none⟩) 1 1, .int .i64 ea, .slice (some ⟨b + 1, 0, none⟩) n n]
  d2 : Blk wr (b + 3) 3 (ints .i64 [(n : Int)])
  x2 : Blk wr (b + 4) 34 (ints .i8 ys)
  t2 : Blk wr (b + 5) 25 [.slice (some ⟨b + 3, 0, none⟩) 1 1, .int .i64 eb, .slice (some ⟨b + 4, 0, none⟩) n n]
  wb : w.heap.size = b
  bel : Below b w wr
section
variable {w wr : World} {b n : Nat} {ea eb : Int} {xs ys : List Int}
theorem FillI.drew (h : FillI w b n ea eb xs ys wr) : FillI w b n ea eb xs ys wr.drew := ⟨h.d1, h.x1, h.t1, h.d2, h.x2, h.t2, h.wb, h.bel.drew⟩
theorem FillI.next1 (h : FillI w b n ea eb xs ys wr) (k : Nat) (u v : Int) : FillI w b n ea eb (xs.set k u) (ys.set k v) ((wr.setCell ⟨b + 1, k, none⟩ (.int .i8 u)).setCell ⟨b + 4, k, none⟩ (.int .i8 v)) := by
  have f : ∀ {g t cs}, Blk wr g t cs → g ≠ b + 1 → g ≠ b + 4 → Blk ((wr.setCell ⟨b + 1, k, none⟩ (.int .i8 u)).setCell ⟨b + 4, k, none⟩ (.int .i8 v)) g t cs := fun hb h1 h4 => (hb.far (p := ⟨b + 1, k, none⟩) h1 _).far (p := ⟨b + 4, k, none⟩) h4 _
  refine ⟨f h.d1 (by omega) (by omega), ?_, f h.t1 (by omega) (by omega), f h.d2 (by omega) (by omega), ?_, f h.t2 (by omega) (by omega), h.wb, ?_⟩
  · have := (h.x1.put k (.int .i8 u)).far (p := ⟨b + 4, k, none⟩) (show b + 1 ≠ b + 4 by omega) (.int .i8 v)
    rwa [ints_set] at this
  · have := (h.x2.far (p := ⟨b + 1, k, none⟩) (show b + 4 ≠ b + 1 by omega) (.int .i8 u)).put k (.int .i8 v)
    rwa [ints_set] at this
  · exact (h.bel.setCell (p := ⟨b + 1, k, none⟩) (by show b ≤ b + 1; omega) _).setCell (p := ⟨b + 4, k, none⟩) (by show b ≤ b + 4; omega) _
theorem FillI.next2 (h : FillI w b n ea eb xs ys wr) (k : Nat) (u v : Int) : FillI w b n ea eb (xs.set k u) (ys.set k v) ((wr.setCell ⟨b + 4, k, none⟩ (.int .i8 v)).setCell ⟨b + 1, k, none⟩ (.int .i8 u)) := by
  have f : ∀ {g t cs}, Blk wr g t cs → g ≠ b + 1 → g ≠ b + 4 → Blk ((wr.setCell ⟨b + 4, k, none⟩ (.int .i8 v)).setCell ⟨b + 1, k, none⟩ (.int .i8 u)) g t cs := fun hb h1 h4 => (hb.far (p := ⟨b + 4, k, none⟩) h4 _).far (p := ⟨b + 1, k, none⟩) h1 _
  refine ⟨f h.d1 (by omega) (by omega), ?_, f h.t1 (by omega) (by omega), f h.d2 (by omega) (by omega), ?_, f h.t2 (by omega) (by omega), h.wb, ?_⟩
  · have := (h.x1.far (p := ⟨b + 4, k, none⟩) (show b + 1 ≠ b + 4 by omega) (.int .i8 v)).put k (.int .i8 u)
    rwa [ints_set] at this
  · have := (h.x2.put k (.int .i8 v)).far (p := ⟨b + 1, k, none⟩) (show b + 4 ≠ b + 1 by omega) (.int .i8 u)
    rwa [ints_set] at this
  · exact (h.bel.setCell (p := ⟨b + 4, k, none⟩) (by show b ≤ b + 4; omega) _).setCell (p := ⟨b + 1, k, none⟩) (by show b ≤ b + 1; omega) _
theorem FillI.isA (h : FillI w b n ea eb xs ys wr) (hx : xs.length = n) (h3 : n ≤ 300) (hb : ∀ x ∈ xs, -128 ≤ x ∧ x ≤ 127) (e0 : -64 ≤ ea) (e1 : ea ≤ 64) :
    IsT wr wr.heap.size (.slice (some ⟨b, 0, none⟩) 1 1) (.slice (some ⟨b + 1, 0, none⟩) n n) [(n : Int)] ea xs := by
  have hm : n ≤ maxLen := by unfold maxLen; omega
  have h1 := Blk.isInts [(n : Int)] h.d1 (by unfold maxLen; simp)
  have h2 := Blk.isInts xs h.x1 (by omega)
  rw [hx] at h2
  exact ⟨h1, h2, Lib.hid (by simp; omega), Lib.hid hb, by omega, by omega⟩
theorem FillI.isB (h : FillI w b n ea eb xs ys wr) (hx : ys.length = n) (h3 : n ≤ 300) (hb : ∀ x ∈ ys, -128 ≤ x ∧ x ≤ 127) (e0 : -64 ≤ eb) (e1 : eb ≤ 64) :
    IsT wr wr.heap.size (.slice (some ⟨b + 3, 0, none⟩) 1 1) (.slice (some ⟨b + 4, 0, none⟩) n n) [(n : Int)] eb ys := by
  have hm : n ≤ maxLen := by unfold maxLen; omega
  have h1 := Blk.isInts [(n : Int)] h.d2 (by unfold maxLen; simp)
  have h2 := Blk.isInts ys h.x2 (by omega)
  rw [hx] at h2
  exact ⟨h1, h2, Lib.hid (by simp; omega), Lib.hid hb, by omega, by omega⟩
theorem FillI.start (w : World) (n : Nat) (ea eb : Int) : FillI w w.heap.size n ea eb (List.replicate n 0) (List.replicate n 0)
    ((((((w.alloc (.cells #[.int .i64 n] 3)).alloc (.cells (zerosA (.int .i8 0) n) 34)).alloc (.cells #[.slice (some ⟨w.heap.size, 0, none⟩) 1 1, .int .i64 ea, .slice (some ⟨w.heap.size + 1, 0, none⟩) n n] 25)).alloc
      (.cells #[.int .i64 n] 3)).alloc (.cells (zerosA (.int .i8 0) n) 34)).alloc (.cells #[.slice (some ⟨w.heap.size + 3, 0, none⟩) 1 1, .int .i64 eb, .slice (some ⟨w.heap.size + 4, 0, none⟩) n n] 25)) := by
  obtain ⟨o2, h2⟩ : ∃ o, o = Obj.cells #[.slice (some ⟨w.heap.size, 0, none⟩) 1 1, .int .i64 ea, .slice (some ⟨w.heap.size + 1, 0, none⟩) n n] 25 := ⟨_, rfl⟩
  obtain ⟨o5, h5⟩ : ∃ o, o = Obj.cells #[.slice (some ⟨w.heap.size + 3, 0, none⟩) 1 1, .int .i64 eb, .slice (some ⟨w.heap.size + 4, 0, none⟩) n n] 25 := ⟨_, rfl⟩
  have hz : (zerosA (.int .i8 0) n).toList = ints .i8 (List.replicate n 0) := by rw [zerosA_toList]; simp [ints]
  have k0 := Blk.fresh w 3 [.int .i64 (n : Int)]
  have k1 := Blk.freshA (w.alloc (.cells #[.int .i64 n] 3)) 34 (zerosA (.int .i8 0) n)
  have k2 := Blk.fresh ((w.alloc (.cells #[.int .i64 n] 3)).alloc (.cells (zerosA (.int .i8 0) n) 34)) 25 [.slice (some ⟨w.heap.size, 0, none⟩) 1 1, .int .i64 ea, .slice (some ⟨w.heap.size + 1, 0, none⟩) n n]
  rw [← h2]
  have h2' : Obj.cells (List.toArray [.slice (some ⟨w.heap.size, 0, none⟩) 1 1, .int .i64 ea, .slice (some ⟨w.heap.size + 1, 0, none⟩) n n]) 25 = o2 := h2.symm
  rw [h2'] at k2
  have k3 := Blk.fresh (((w.alloc (.cells #[.int .i64 n] 3)).alloc (.cells (zerosA (.int .i8 0) n) 34)).alloc o2) 3 [.int .i64 (n : Int)]
  have k4 := Blk.freshA ((((w.alloc (.cells #[.int .i64 n] 3)).alloc (.cells (zerosA (.int .i8 0) n) 34)).alloc o2).alloc (.cells #[.int .i64 n] 3)) 34 (zerosA (.int .i8 0) n)
  have k5 := Blk.fresh (((((w.alloc (.cells #[.int .i64 n] 3)).alloc (.cells (zerosA (.int .i8 0) n) 34)).alloc o2).alloc (.cells #[.int .i64 n] 3)).alloc (.cells (zerosA (.int .i8 0) n) 34)) 25 [.slice (some ⟨w.heap.size + 3, 0, none⟩) 1 1, .int .i64 eb, .slice (some ⟨w.heap.size + 4, 0, none⟩) n n]
  rw [← h5]
  have h5' : Obj.cells (List.toArray [.slice (some ⟨w.heap.size + 3, 0, none⟩) 1 1, .int .i64 eb, .slice (some ⟨w.heap.size + 4, 0, none⟩) n n]) 25 = o5 := h5.symm
  rw [h5'] at k5
  simp only [World.size_alloc, Nat.add_assoc, Nat.reduceAdd, hz] at k1 k2 k3 k4 k5
  refine ⟨((((k0.alloc _).alloc _).alloc _).alloc _).alloc _, (((k1.alloc _).alloc _).alloc _).alloc _, ((k2.alloc _).alloc _).alloc _, (k3.alloc _).alloc _, k4.alloc _, k5, rfl, ?_⟩
  exact ((((((Below.refl _ _).alloc (Nat.le_refl _) _).alloc (by simp) _).alloc (by simp; omega) _).alloc (by simp; omega) _).alloc (by simp; omega) _).alloc (by simp; omega) _
end
end Go.Proofs.Ythdahnjghpiheaa
