/- Literals, variables and loads of whole sectors, as the walk asks them. -/
import Derived.Test.YtjddplddpdcmdaaSecOps
import Derived.Great.BuildSlice
import Derived.Deep.WholeRow
namespace Go.Proofs.Ytjddplddpdcmdaa
open Go.RowKit
set_option linter.unusedVariables false
set_option linter.unusedSimpArgs false

theorem fold_splice : ∀ (cs : List Value) (k off : Nat) (arr : List Value), off + k + cs.length ≤ arr.length → (cs.zipIdx k).foldl (fun a x => a.set (off + x.2) x.1) arr = arr.take (off + k) ++ cs ++ arr.drop (off + k + cs.length)
  | [], k, off, arr, h => by simp
  | v :: r, k, off, arr, h => by
    rw [List.zipIdx_cons, List.foldl_cons, fold_splice r (k + 1) off (arr.set (off + k) v) (by simp at h ⊢; omega)]
    have := splice_step arr (off + k) v r (by simp at h; omega)
    rw [show off + (k + 1) = off + k + 1 by omega]
    exact this
theorem fold_toList (off : Nat) : ∀ (l : List (Value × Nat)) (arr : Array Value), (l.foldl (fun a x => a.setIfInBounds (off + x.2) x.1) arr).toList = l.foldl (fun a x => a.set (off + x.2) x.1) arr.toList
  | [], arr => rfl
  | x :: l, arr => by
    rw [List.foldl_cons, List.foldl_cons, fold_toList off l, Array.toList_setIfInBounds]
theorem fold_arr (cs : Array Value) (off : Nat) (arr : Array Value) (h : off + cs.size ≤ arr.size) :
    cs.zipIdx.foldl (fun a (x : Value × Nat) => a.setIfInBounds (off + x.2) x.1) arr = (arr.toList.take off ++ cs.toList ++ arr.toList.drop (off + cs.size)).toArray := by
  apply Array.toList_inj.1
  rw [← Array.foldl_toList, fold_toList, Array.toList_zipIdx, fold_splice _ _ _ _ (by simpa using h)]
  simp
theorem fill_cons (place : Nat → Option (Nat × Nat)) (cells : Array Value) (i : Nat) (v : Value) (rest : List (Nat × Value)) (off size : Nat) (hp : place i = some (off, size)) (hs : v.cells.size = size) (hf : off + size ≤ cells.size) :
    Instr.fill place cells ((i, v) :: rest) = Instr.fill place (cells.toList.take off ++ v.cells.toList ++ cells.toList.drop (off + size)).toArray rest := by
  subst hs
  rw [Instr.fill, hp]
  simp only
  rw [if_neg (by simp; omega)]
  congr 1
  exact fold_arr v.cells off cells hf

def zSec : List Value := List.replicate 64 (.int .u8 0)
def zWr : List Value := .int .i64 0 :: zSec
theorem len_zSec : zSec.length = 64 := by simp [zSec]
theorem len_zWr : zWr.length = 65 := by simp [zWr, len_zSec]
theorem info_sec : (Try.prog.info? 74).map (fun i => (i.zero, i.size)) = some (some (.agg zSec.toArray), 64) := by kernel_rfl
theorem info_wr : (Try.prog.info? 76).map (fun i => (i.zero, i.size)) = some (some (.agg zWr.toArray), 65) := by kernel_rfl
theorem size_sec : (Try.prog.info? 74).map (·.size) = some 64 := by kernel_rfl
theorem size_wr : (Try.prog.info? 76).map (·.size) = some 65 := by kernel_rfl
theorem und_sec : Try.prog.underlying 74 = some (.array 64 5) := Try.underlying74
theorem und_wr : ∃ d, Try.prog.underlying 76 = some d ∧ d.isRow = true := ⟨_, Try.underlying76, rfl⟩
theorem run_alloc_of {P : Program} (w : World) (t : TypeId) (z : Array Value) (n : Nat) (h : (P.info? t).map (fun i => (i.zero, i.size)) = some (some (.agg z), n)) :
    (Instr.alloc t true (.tuple #[])).run P w = .ok (.pointer (some ⟨w.heap.size, 0, none⟩)) (w.alloc (.cells z t)) := by
  have := (zero_of_info h).1 w
  simp [Instr.alloc, this, newVar, newRow, Value.cells]
theorem wp_alloc_of {P : Program} {o : Oper} {a : Act} {w : World} {K : Act → World → Prop} {Q : Exit → Act → World → Prop} (t : TypeId) (ho : o.op = .alloc t) (z : Array Value) (n : Nat) (h : (P.info? t).map (fun i => (i.zero, i.size)) = some (some (.agg z), n))
    (hk : K (a.put o.dst (.pointer (some ⟨w.heap.size, 0, none⟩))) (w.alloc (.cells z t))) : o.wp P a w K Q := by
  unfold Oper.wp execOp
  simp only [ho, Sem.run_bind, run_alloc_of w t z n h, Result.andThen_ok]
  exact hk
theorem wpList_alloc_of {P : Program} {ops : Array Oper} {rest : List Oper} {o : Oper} {a : Act} {w : World} {Q : Exit → Act → World → Prop} (hgd : o.guard = none) (t : TypeId) (ho : o.op = .alloc t) (z : Array Value) (n : Nat) (h : (P.info? t).map (fun i => (i.zero, i.size)) = some (some (.agg z), n))
    (hk : wpList P ops Q rest (a.put o.dst (.pointer (some ⟨w.heap.size, 0, none⟩))) (w.alloc (.cells z t))) : wpList P ops Q (o :: rest) a w :=
  wpList_plain hgd fun _ hK => wp_alloc_of t ho z n h (hK _ _ hk)
set_option maxRecDepth 100000 in
theorem built_wr (i : Int) (cs : List Value) (h : cs.length = 64) : Try.prog.built 76 [(0, .int .i64 i), (1, .agg cs.toArray)] = some (.int .i64 i :: cs).toArray := by
  have hz : ∃ it, Try.prog.info? 76 = some it ∧ it.zero = some (.agg zWr.toArray) := by
    have hi := info_wr
    cases hq : Try.prog.info? 76 with
    | none => rw [hq] at hi; simp at hi
    | some it => rw [hq] at hi; simp at hi; exact ⟨it, rfl, hi.1⟩
  obtain ⟨it, h1, h2⟩ := hz
  have hu := Try.underlying76
  have hp : ((Try.prog.fieldsOf 76).toList.mapM (fun f => (Try.prog.info? f.type).map fun i => (f.offset, i.size))) = some [(0, 1), (1, 64)] := by kernel_rfl
  unfold Program.fieldsOf at hp
  unfold Program.built
  rw [hu] at hp ⊢
  simp only [h1, h2]
  simp only at hp
  rw [hp]
  simp only
  rw [fill_cons _ _ 0 (.int .i64 i) _ 0 1 rfl rfl (by simp [Value.cells, len_zWr]), fill_cons _ _ 1 (.agg cs.toArray) _ 1 64 rfl (by simpa [Value.cells] using h) (by simp [Value.cells, len_zWr])]
  simp [Instr.fill, Value.cells, zWr, len_zSec]
theorem wpList_build_wr {ops : Array Oper} {rest : List Oper} {o : Oper} {a : Act} {w : World} {Q : Exit → Act → World → Prop} (hg : o.guard = none) (x y : Operand) (ho : o.op = .build 76 #[(0, x), (1, y)])
    (i : Int) (cs : List Value) (hx : a.eval x = .int .i64 i) (hy : a.eval y = .agg cs.toArray) (h : cs.length = 64)
    (hk : wpList Try.prog ops Q rest (a.put o.dst (.agg (.int .i64 i :: cs).toArray)) w) : wpList Try.prog ops Q (o :: rest) a w := by
  have hb := built_wr i cs h
  refine wpList_build hg 76 #[(0, x), (1, y)] ho (by simp [hx, hy, hb]) ?_
  simpa [hx, hy, hb] using hk
theorem run_buildSlice_wr (cs : List Value) (h : cs.length = 65) (w : World) : (Instr.buildSlice 62 1 #[(0, .agg cs.toArray)]).run Try.prog w = .ok (.slice (some ⟨w.heap.size, 0, none⟩) 1 1) (w.alloc (.cells cs.toArray 76)) := by
  have hi := info_wr
  cases hq : Try.prog.info? 76 with
  | none => rw [hq] at hi; simp at hi
  | some it =>
    rw [hq] at hi
    simp at hi
    refine run_buildSlice w _ 76 1 _ cs.toArray it _ Try.underlying62 hq hi.1 (by rw [hi.2]; omega) (by rw [hi.2]; omega) ?_
    rw [hi.2]
    rw [show (#[(0, Value.agg cs.toArray)] : Array (Nat × Value)).toList = [(0, .agg cs.toArray)] from rfl]
    rw [fill_cons _ _ 0 _ _ 0 65 rfl (by simpa [Value.cells] using h) (by simp)]
    simp [Instr.fill, Value.cells]
end Go.Proofs.Ytjddplddpdcmdaa
