/- unit.like's loop: what stands, plainly. -/
import Derived.Test.YthdahnjghpiheaaRelu
namespace Go.Proofs.Ythdahnjghpiheaa
open Go.RowKit
set_option linter.unusedVariables false

structure LikeI (w : World) (b q B0 : Nat) (dv xv : Value) (exp : Int) (d6 : Value) (dims : List Int) (u : Value) (ys : List Int) (wr : World) : Prop where
  box : Blk wr b 25 [dv, .int .i64 exp, xv]
  res : Blk wr (b + 1) 25 [.slice none 0 0, .int .i64 0, .slice none 0 0]
  out : Blk wr q 25 [d6, .int .i64 exp, u]
  own : wr.ownsRow B0 34 1 u ys.length (ints .i8 ys)
  dim : wr.ownsRow (b + 2) 3 1 d6 dims.length (ints .i64 dims)
  dlt : ∀ k, d6.ownBlock = some k → k < B0 ∧ k ≠ q
  q0 : b + 1 < q
  q1 : q < B0
  sz : B0 ≤ wr.heap.size
  wb : w.heap.size = b
  bel : Below b w wr
theorem LikeI.ulow {w : World} {b q B0 : Nat} {dv xv : Value} {exp : Int} {d6 : Value} {dims : List Int} {u : Value} {ys : List Int} {wr : World} (h : LikeI w b q B0 dv xv exp d6 dims u ys wr) {k : Nat} (hk : u.ownBlock = some k) : B0 ≤ k := (h.own.lt k hk).1
theorem LikeI.next {w : World} {b q B0 : Nat} {dv xv : Value} {exp : Int} {d6 : Value} {dims : List Int} {u : Value} {ys : List Int} {wr w1 : World} {o : Obj} {A : Option Addr} {c : Nat} {y : Int} (h : LikeI w b q B0 dv xv exp d6 dims u ys wr)
    (hg : ((wr.alloc o).drew).grownBy w1 u.ownBlock) (hown : w1.ownsRow B0 34 1 (.slice A (ys.length + 1) c) (ys.length + 1) (ints .i8 ys ++ [.int .i8 y])) :
    LikeI w b q B0 dv xv exp d6 dims (.slice A (ys.length + 1) c) (ys ++ [y]) (w1.setCell ⟨q, 2, none⟩ (.slice A (ys.length + 1) c)) := by
  have q0 := h.q0
  have q1 := h.q1
  have hlow : ∀ k, u.ownBlock = some k → B0 ≤ k := fun k hk => h.ulow hk
  have hne : ∀ g, g < B0 → some g ≠ u.ownBlock := fun g hg he => by have := hlow g he.symm; omega
  have hoff : Off (fun i => i = q ∨ u.ownBlock = some i) wr (w1.setCell ⟨q, 2, none⟩ (.slice A (ys.length + 1) c)) :=
    Off.setCell (p := ⟨q, 2, none⟩) (((((Off.refl (fun i => i = q ∨ u.ownBlock = some i) wr).alloc o).drew).grown hg (fun k hk => .inl (.inr hk)))) (.inl (.inl rfl)) _
  refine ⟨?_, ?_, ?_, ?_, ?_, ?_, h.q0, h.q1, ?_, h.wb, ?_⟩
  · exact ((h.box.alloc o).drew.grown hg (hne b (by omega))).far (by show b ≠ q; omega) _
  · exact ((h.res.alloc o).drew.grown hg (hne (b + 1) (by omega))).far (by show b + 1 ≠ q; omega) _
  · exact ((h.out.alloc o).drew.grown hg (hne q (by omega))).put 2 _
  · have h1 := own_off (w' := w1.setCell ⟨q, 2, none⟩ (.slice A (ys.length + 1) c)) hown (Off.setCell (p := ⟨q, 2, none⟩) (Off.refl (fun i => i = q) w1) (.inl rfl) _) (fun k hk he => by have := (hown.lt k hk).1; omega)
    have e : ints .i8 (ys ++ [y]) = ints .i8 ys ++ [.int .i8 y] := by simp [ints]
    rw [e, List.length_append]
    exact h1
  · exact own_off h.dim hoff (fun k hk he => by
      have := h.dlt k hk
      rcases he with he | he
      · exact this.2 he
      · have := hlow k he; omega)
  · exact h.dlt
  · exact Nat.le_trans h.sz hoff.size
  · exact h.bel.trans (hoff.below (by have := h.sz; omega) (fun i hi => by
      rcases hi with hi | hi
      · omega
      · have := hlow i hi; omega))
theorem LikeI.start1 {w wA w5 : World} {b : Nat} {dv xv d6 : Value} {exp : Int} {dims : List Int} (hb : w.heap.size = b) (hs : wA.heap.size = b + 2) (K2 : Blk wA (b + 1) 25 [.slice none 0 0, .int .i64 0, .slice none 0 0])
    (HB : Below b w wA) (HK : Blk w5 b 25 [dv, .int .i64 exp, xv]) (HO : w5.ownsRow wA.drew.heap.size 3 1 d6 dims.length (ints .i64 dims)) (HW : Below wA.drew.heap.size wA.drew w5) :
    LikeI w b w5.heap.size (w5.alloc (.cells #[d6, .int .i64 exp, .slice none 0 0] 25)).heap.size dv xv exp d6 dims (.slice none 0 0) [] (w5.alloc (.cells #[d6, .int .i64 exp, .slice none 0 0] 25)) := by
  have h1 : wA.drew.heap.size = b + 2 := hs
  have h2 := HW.size
  rw [h1] at HO HW h2
  have h3 : Off (fun _ => False) w5 (w5.alloc (.cells #[d6, .int .i64 exp, .slice none 0 0] 25)) := (Off.refl _ _).alloc _
  refine ⟨HK.alloc _, ((K2.drew).below HW (by omega)).alloc _, Blk.freshA _ _ _, ?_, own_off HO h3 (fun _ _ h => h), ?_, by omega, by simp, Nat.le_refl _, hb, ?_⟩
  · exact World.ownsRow_nil _ _ _ _
  · intro k hk
    have := (HO.lt k hk)
    simp
    omega
  · exact ((HB.drew).trans (HW.mono (by omega))).alloc (by omega) _
theorem LikeI.start2 {w wA w5 : World} {b : Nat} {dv xv d6 : Value} {exp : Int} {dims : List Int} (o : Obj) (hb : w.heap.size = b) (hs : wA.heap.size = b + 2) (K2 : Blk wA (b + 1) 25 [.slice none 0 0, .int .i64 0, .slice none 0 0])
    (HB : Below b w wA) (HK : Blk w5 b 25 [dv, .int .i64 exp, xv]) (HM : Blk w5 (b + 2) 25 [.slice none 0 0, .int .i64 0, .slice none 0 0]) (HO : w5.ownsRow ((wA.alloc o).drew).heap.size 3 1 d6 dims.length (ints .i64 dims)) (HW : Below ((wA.alloc o).drew).heap.size ((wA.alloc o).drew) w5) :
    LikeI w b (b + 2) w5.heap.size dv xv exp d6 dims (.slice none 0 0) [] (((w5.setCell ⟨b + 2, 0, none⟩ d6).setCell ⟨b + 2, 1, none⟩ (.int .i64 exp)).setCell ⟨b + 2, 2, none⟩ (.slice none 0 0)) := by
  have h1 : ((wA.alloc o).drew).heap.size = b + 3 := by show (wA.alloc o).heap.size = b + 3; simp; omega
  have h2 := HW.size
  rw [h1] at HO HW h2
  have h3 := off_set3 w5 (b + 2) d6 (.int .i64 exp) (.slice none 0 0)
  refine ⟨HK.off h3 (by omega), (((K2.alloc o).drew).below HW (by omega)).off h3 (by omega), ((HM.put 0 _).put 1 _).put 2 _, World.ownsRow_nil _ _ _ _, own_lower (own_off HO h3 (fun k hk he => by have := (HO.lt k hk).1; omega)) (by omega), ?_, by omega, by have := HM.lt; omega, h3.size, hb, ?_⟩
  · intro k hk
    have := (HO.lt k hk)
    omega
  · exact ((((HB.alloc (by omega) o).drew).trans (HW.mono (by omega)))).trans (h3.below (by omega) (fun i hi => by omega))
end Go.Proofs.Ythdahnjghpiheaa
