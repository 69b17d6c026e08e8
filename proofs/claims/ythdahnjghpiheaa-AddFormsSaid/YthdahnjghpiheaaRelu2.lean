/- Contract of unit.Relu. -/
import Derived.Test.YthdahnjghpiheaaLike
namespace Go.Proofs.Ythdahnjghpiheaa
open Go.RowKit
set_option linter.unusedVariables false

def reluI (data : List Int) : List Int := data.map (fun x => max 0 x)
def ReluGives (w : World) (dims : List Int) (exp : Int) (data : List Int) (en : Ending) (w' : World) : Prop :=
  if mayB dims exp data = true then GivesT w dims exp (reluI data) 0 en w' else GivesT w [] 0 [] 1 en w'
theorem hands_relu (w : World) (B b : Nat) (data : List Int) (A' : Option Addr) (c' : Nat) (dv : Value) (exp : Int) (hB : B ≤ w.heap.size) (hk : Blk w b 25 [dv, .int .i64 exp, .slice A' data.length c']) (hx : Reads w B (.slice A' data.length c') (ints .i8 data)) :
    Hands (.pointer (some ⟨b, 0, none⟩)) (reluI data) w := by
  intro k u w' hu hb
  unfold reluI at hu
  rw [List.getElem?_map] at hu
  cases hd : data[k]? with
  | none => rw [hd] at hu; cases hu
  | some y =>
    rw [hd] at hu
    injection hu with hu
    subst hu
    exact relu1_any k data y hd w' b B A' c' ((hk.below hb hk.lt).cell 2) (hx.below (hb.mono hB))

set_option maxHeartbeats 1600000 in
set_option maxRecDepth 100000 in
theorem relu_any (dims : List Int) (exp : Int) (data : List Int) (dv xv : Value) (w : World) (B : Nat) (hB : B ≤ w.heap.size) (h : IsT w B dv xv dims exp data) (ld : dims.length * 8 ≤ 140737488355328) (lx : data.length ≤ 140737488355000) :
    Calls Try.prog 15 #[.agg #[dv, .int .i64 exp, xv]] w (ReluGives w dims exp data) := by
  have hb0 := two_alloc0 w (.cells #[dv, .int .i64 exp, xv] 25) (.cells #[.slice none 0 0, .int .i64 0, .slice none 0 0] 25)
  have hI0 := h.below (hb0.mono hB)
  have hM := tmay_any dims exp data dv xv _ B (Nat.le_trans hB hb0.size) hI0
  obtain ⟨A, c, rfl, _, _⟩ := h.d.form
  obtain ⟨A', c', rfl, _, _⟩ := h.x.form
  simp only [length_ints] at *
  have K1 := Lib.hid ((Blk.fresh w 25 [.slice A dims.length c, .int .i64 exp, .slice A' data.length c']).alloc (.cells #[.slice none 0 0, .int .i64 0, .slice none 0 0] 25))
  have K2 := Lib.hid (Blk.fresh (w.alloc (.cells #[.slice A dims.length c, .int .i64 exp, .slice A' data.length c'] 25)) 25 [.slice none 0 0, .int .i64 0, .slice none 0 0])
  have HM := Lib.hid hM
  have HB0 := Lib.hid hb0
  have HI := Lib.hid hI0
  clear hM hb0 hI0 h
  go_enter Try.func15, Try.ntmps15
  go_wp2_with fail
  refine HM.out.mono ?_
  rintro e w3 ⟨rfl, hb3⟩
  have k1 := K1.out.below hb3 (by simp; omega)
  have k2 := K2.out.below hb3 (by simp)
  have hi3 := (HI.out.below (hb3.mono (by simp; omega)))
  have hb4 := HB0.out.trans (hb3.mono (by simp; omega))
  simp only [World.size_alloc] at k2
  clear hb3 HM K1 K2 HI HB0
  have K1 := Lib.hid k1
  have K2 := Lib.hid k2
  have HI := Lib.hid hi3
  have HB := Lib.hid hb4
  have s0 : w3.cell? ⟨w.heap.size, 0, none⟩ = some (.slice A dims.length c) := k1.cell 0
  have s1 : w3.cell? ⟨w.heap.size, 1, none⟩ = some (.int .i64 exp) := k1.cell 1
  have s2 : w3.cell? ⟨w.heap.size, 2, none⟩ = some (.slice A' data.length c') := k1.cell 2
  have r0 : w3.cell? ⟨w.heap.size + 1, 0, none⟩ = some (.slice none 0 0) := k2.cell 0
  have r1 : w3.cell? ⟨w.heap.size + 1, 1, none⟩ = some (.int .i64 0) := k2.cell 1
  have r2 : w3.cell? ⟨w.heap.size + 1, 2, none⟩ = some (.slice none 0 0) := k2.cell 2
  have f0 := k2.free 0
  have f1 := k2.free 1
  have f2 := k2.free 2
  clear k1 k2 hi3 hb4
  have HP : Hid (ReluGives w dims exp data = ReluGives w dims exp data) := Lib.hid rfl
  by_cases p1 : mayB dims exp data = true
  · have P1 := Lib.hid p1
    rw [p1]
    clear p1
    have hB3 : B ≤ w3.heap.size := Nat.le_trans hB HB.out.size
    have HL := Lib.hid (like_any dims exp data _ _ (.pointer (some ⟨w.heap.size, 0, none⟩)) (reluI data) w3 B hB3 HI.out (by simp [reluI]) (by
      intro x hx
      simp only [reluI, List.mem_map] at hx
      obtain ⟨y, hy, rfl⟩ := hx
      have := HI.out.xb.out y hy
      omega) ld lx (hands_relu w3 B w.heap.size data A' c' _ exp hB3 K1.out HI.out.x))
    go_wp2_with (go_at_call 35; refine HL.out.mono ?_; rintro e5 w5 ⟨d5, x5, rfl, hd5, hx5, hb5⟩; obtain ⟨Ad, cd, rfl⟩ := own_form hd5; obtain ⟨Ax, cx, rfl⟩ := own_form hx5; have m5 := K2.out.below hb5 K2.out.lt; have x0 : w5.cell? ⟨w.heap.size + 1, 0, none⟩ = some (.slice none 0 0) := m5.cell 0; have x1 : w5.cell? ⟨w.heap.size + 1, 1, none⟩ = some (.int .i64 0) := m5.cell 1; have x2 : w5.cell? ⟨w.heap.size + 1, 2, none⟩ = some (.slice none 0 0) := m5.cell 2; have y0 := m5.free 0; have y1 := m5.free 1; have y2 := m5.free 2; have HD5 := Lib.hid hd5; have HX5 := Lib.hid hx5; have HB5 := Lib.hid hb5; clear m5 hd5 hx5 hb5)
    refine bodyPost_ret (v := .tuple #[.agg #[.slice Ad dims.length cd, .int .i64 exp, .slice Ax (reluI data).length cx], .int .i64 0]) (by simp [results, Try.results15, go_sem, x0, x1, x2]) rfl ?_
    unfold ReluGives
    rw [if_pos P1.out]
    have hl := K2.out.lt
    have hoff := off_set3 w5 (w.heap.size + 1) (.slice Ad dims.length cd) (.int .i64 exp) (.slice Ax (reluI data).length cx)
    have i6 := own_off HD5.out hoff (fun k hk he => by have := (HD5.out.lt k hk).1; omega)
    have i7 := own_off HX5.out hoff (fun k hk he => by have := (HX5.out.lt k hk).1; omega)
    have g6 := Reads.of_own i6
    have g7 := Reads.of_own i7
    refine ⟨_, _, rfl, ⟨g6, g7, HI.out.db, Lib.hid ?_, HI.out.e0, HI.out.e1⟩, ?_, own_lower i6 HB.out.size, own_lower i7 HB.out.size⟩
    · intro x hx
      simp only [reluI, List.mem_map] at hx
      obtain ⟨y, hy, rfl⟩ := hx
      have := HI.out.xb.out y hy
      omega
    · exact (HB.out.trans (HB5.out.mono (by have := HB.out.size; omega))).trans (hoff.below (by have := HB.out.size; have := HB5.out.size; omega) (fun i hi => by omega))
  · have t1 : mayB dims exp data = false := by simpa using p1
    have P1 := Lib.hid p1
    rw [t1]
    clear t1 p1
    go_wp2
    refine bodyPost_ret (v := .tuple #[.agg #[.slice none 0 0, .int .i64 0, .slice none 0 0], .int .i64 1]) (by simp [results, Try.results15, go_sem, r0, r1, r2]) rfl ?_
    unfold ReluGives
    rw [if_neg P1.out]
    exact ⟨_, _, rfl, IsT.zero _ _, HB.out.trans ((off_set3 w3 (w.heap.size + 1) _ _ _).below (by have := HB.out.size; omega) (fun i hi => by omega)), World.ownsRow_nil _ _ _ _, World.ownsRow_nil _ _ _ _⟩
end Go.Proofs.Ythdahnjghpiheaa
