/- Rows of sums: plain; what stands in add.Add's loop. -/
import Derived.Test.YthdahnjghpiheaaUnitPlain
import Derived.Test.YthdahnjghpiheaaAlign
namespace Go.Proofs.Ythdahnjghpiheaa
open Go.RowKit
set_option linter.unusedVariables false

/-- sums' parts -/
structure IsA (w : World) (B : Nat) (dv xv : Value) (dims : List Int) (exp : Int) (data : List Int) : Prop where
  d : Reads w B dv (ints .i64 dims)
  x : Reads w B xv (ints .i32 data)
  db : Hid (∀ x ∈ dims, -9223372036854775808 ≤ x ∧ x ≤ 9223372036854775807)
  xb : Hid (∀ x ∈ data, -2147483648 ≤ x ∧ x ≤ 2147483647)
  e0 : -9223372036854775808 ≤ exp
  e1 : exp ≤ 9223372036854775807
theorem IsA.below {w w' : World} {B : Nat} {dv xv : Value} {dims : List Int} {exp : Int} {data : List Int} (h : IsA w B dv xv dims exp data) (hb : Below B w w') : IsA w' B dv xv dims exp data :=
  ⟨h.d.below hb, h.x.below hb, h.db, h.xb, h.e0, h.e1⟩
theorem IsA.more {w : World} {B B' : Nat} {dv xv : Value} {dims : List Int} {exp : Int} {data : List Int} (h : IsA w B dv xv dims exp data) (hb : B ≤ B') : IsA w B' dv xv dims exp data :=
  ⟨h.d.more hb, h.x.more hb, h.db, h.xb, h.e0, h.e1⟩
theorem IsA.zero (w : World) (B : Nat) : IsA w B (.slice none 0 0) (.slice none 0 0) [] 0 [] :=
  ⟨Reads.nil_ _ _, Reads.nil_ _ _, Lib.hid (by simp), Lib.hid (by simp), by omega, by omega⟩
theorem elem_i32 : ElemOf Try.prog 37 21 (.int .i32 0) 4 := ⟨Try.underlying37, by kernel_rfl, rfl⟩
/-- sums and an error -/
def FormA (w : World) (dims : List Int) (exp : Int) (data : List Int) (err : Int) (en : Ending) (w' : World) : Prop :=
  ∃ A c A' c', en = .returned (.tuple #[.agg #[.slice A dims.length c, .int .i64 exp, .slice A' data.length c'], .int .i64 err]) ∧ IsA w' w'.heap.size (.slice A dims.length c) (.slice A' data.length c') dims exp data ∧ Below w.heap.size w w'

/-- the exponent of two together -/
def addE (ea eb : Int) : Int := max (min ea eb) (max ea eb - 12)
def addI (ea eb : Int) : List Int → List Int → List Int
  | x :: xs, y :: ys => (alignI x (ea - addE ea eb) + alignI y (eb - addE ea eb)) :: addI ea eb xs ys
  | _, _ => []
theorem addI_length (ea eb : Int) : ∀ xs ys : List Int, xs.length = ys.length → (addI ea eb xs ys).length = xs.length
  | [], [], _ => rfl
  | x :: xs, y :: ys, h => by simp only [addI, List.length_cons] at h ⊢; rw [addI_length ea eb xs ys (by omega)]
theorem addI_at (ea eb : Int) : ∀ (xs ys : List Int) (k : Nat) (u v : Int), xs[k]? = some u → ys[k]? = some v → (addI ea eb xs ys)[k]? = some (alignI u (ea - addE ea eb) + alignI v (eb - addE ea eb))
  | x :: xs, y :: ys, 0, u, v, h1, h2 => by simp at h1 h2; subst h1 h2; rfl
  | x :: xs, y :: ys, k + 1, u, v, h1, h2 => by
    simp only [addI, List.getElem?_cons_succ] at h1 h2 ⊢
    exact addI_at ea eb xs ys k u v h1 h2
theorem addI_in (ea eb : Int) : ∀ (xs ys : List Int), (∀ x ∈ xs, -128 ≤ x ∧ x ≤ 127) → (∀ x ∈ ys, -128 ≤ x ∧ x ≤ 127) → ∀ z ∈ addI ea eb xs ys, -1048576 ≤ z ∧ z ≤ 1048576
  | x :: xs, y :: ys, h1, h2, z, hz => by
    simp only [addI, List.mem_cons] at hz
    rcases hz with rfl | hz
    · have a1 := align_in (v := x) (b := ea - addE ea eb) (by unfold addE; omega) (h1 x (by simp)).1 (h1 x (by simp)).2
      have a2 := align_in (v := y) (b := eb - addE ea eb) (by unfold addE; omega) (h2 y (by simp)).1 (h2 y (by simp)).2
      omega
    · exact addI_in ea eb xs ys (fun q hq => h1 q (by simp [hq])) (fun q hq => h2 q (by simp [hq])) z hz
  | [], _, _, _, z, hz => by simp [addI] at hz
  | _ :: _, [], _, _, z, hz => by simp [addI] at hz
def addErr (gd : List Int) (ge : Int) (gx xd : List Int) (xe : Int) (xx : List Int) : Int :=
  if mayB gd ge gx = true ∧ mayB xd xe xx = true then (if gd = xd then 0 else 2) else 1

structure AddI (w : World) (b q B0 : Nat) (G X : List Value) (exp : Int) (d6 : Value) (dims : List Int) (u : Value) (ys : List Int) (wr : World) : Prop where
  box : Blk wr b 25 G
  box2 : Blk wr (b + 1) 25 X
  res : Blk wr (b + 2) 39 [.slice none 0 0, .int .i64 0, .slice none 0 0]
  out : Blk wr q 39 [d6, .int .i64 exp, u]
  own : wr.ownsRow B0 21 1 u ys.length (ints .i32 ys)
  dim : wr.ownsRow (b + 3) 3 1 d6 dims.length (ints .i64 dims)
  dlt : ∀ k, d6.ownBlock = some k → k < B0 ∧ k ≠ q
  q0 : b + 2 < q
  q1 : q < B0
  sz : B0 ≤ wr.heap.size
  wb : w.heap.size = b
  bel : Below b w wr
section
variable {w wA wr w1 w5 : World} {b q B0 : Nat} {G X : List Value} {exp : Int} {d6 : Value} {dims : List Int} {u : Value} {ys : List Int}
theorem AddI.ulow (h : AddI w b q B0 G X exp d6 dims u ys wr) {k : Nat} (hk : u.ownBlock = some k) : B0 ≤ k := (h.own.lt k hk).1
theorem AddI.drewN (h : AddI w b q B0 G X exp d6 dims u ys wr) (n : Nat) : AddI w b q B0 G X exp d6 dims u ys (wr.drewN n) :=
  ⟨h.box, h.box2, h.res, h.out, h.own, h.dim, h.dlt, h.q0, h.q1, h.sz, h.wb, below_drewN h.bel n⟩
theorem AddI.next {o : Obj} {A : Option Addr} {c : Nat} {y : Int} (h : AddI w b q B0 G X exp d6 dims u ys wr)
    (hg : (wr.alloc o).grownBy w1 u.ownBlock) (hown : w1.ownsRow B0 21 1 (.slice A (ys.length + 1) c) (ys.length + 1) (ints .i32 ys ++ [.int .i32 y])) :
    AddI w b q B0 G X exp d6 dims (.slice A (ys.length + 1) c) (ys ++ [y]) (w1.setCell ⟨q, 2, none⟩ (.slice A (ys.length + 1) c)) := by
  have q0 := h.q0
  have q1 := h.q1
  have hlow : ∀ k, u.ownBlock = some k → B0 ≤ k := fun k hk => h.ulow hk
  have hne : ∀ g, g < B0 → some g ≠ u.ownBlock := fun g hg he => by have := hlow g he.symm; omega
  have hoff : Off (fun i => i = q ∨ u.ownBlock = some i) wr (w1.setCell ⟨q, 2, none⟩ (.slice A (ys.length + 1) c)) :=
    Off.setCell (p := ⟨q, 2, none⟩) ((((Off.refl (fun i => i = q ∨ u.ownBlock = some i) wr).alloc o).grown hg (fun k hk => .inl (.inr hk)))) (.inl (.inl rfl)) _
  refine ⟨?_, ?_, ?_, ?_, ?_, ?_, ?_, h.q0, h.q1, ?_, h.wb, ?_⟩
  · exact ((h.box.alloc o).grown hg (hne b (by omega))).far (by show b ≠ q; omega) _
  · exact ((h.box2.alloc o).grown hg (hne (b + 1) (by omega))).far (by show b + 1 ≠ q; omega) _
  · exact ((h.res.alloc o).grown hg (hne (b + 2) (by omega))).far (by show b + 2 ≠ q; omega) _
  · exact ((h.out.alloc o).grown hg (hne q (by omega))).put 2 _
  · have h1 := own_off (w' := w1.setCell ⟨q, 2, none⟩ (.slice A (ys.length + 1) c)) hown (Off.setCell (p := ⟨q, 2, none⟩) (Off.refl (fun i => i = q) w1) (.inl rfl) _) (fun k hk he => by have := (hown.lt k hk).1; omega)
    have e : ints .i32 (ys ++ [y]) = ints .i32 ys ++ [.int .i32 y] := by simp [ints]
    rw [e, List.length_append]
    exact h1
  · exact own_off h.dim hoff (fun k hk he => by
      have := h.dlt k hk
      rcases he with he | he
      · exact this.2 he
      · have := hlow k he; omega)
  · exact h.dlt
  · exact Nat.le_trans h.sz hoff.size
  · exact h.bel.trans (hoff.below (by have := h.sz; omega) (fun i hi => by
      rcases hi with hi | hi
      · omega
      · have := hlow i hi; omega))
theorem AddI.start1 (hb : w.heap.size = b) (hs : b + 3 ≤ wA.heap.size) (K2 : Blk wA (b + 2) 39 [.slice none 0 0, .int .i64 0, .slice none 0 0])
    (HB : Below b w wA) (KG : Blk w5 b 25 G) (KX : Blk w5 (b + 1) 25 X) (HO : w5.ownsRow wA.drew.heap.size 3 1 d6 dims.length (ints .i64 dims)) (HW : Below wA.drew.heap.size wA.drew w5) :
    AddI w b w5.heap.size (w5.alloc (.cells #[d6, .int .i64 exp, .slice none 0 0] 39)).heap.size G X exp d6 dims (.slice none 0 0) [] (w5.alloc (.cells #[d6, .int .i64 exp, .slice none 0 0] 39)) := by
  have h2 := HW.size
  have h1 : wA.drew.heap.size = wA.heap.size := rfl
  rw [h1] at HO HW h2
  have h3 : Off (fun _ => False) w5 (w5.alloc (.cells #[d6, .int .i64 exp, .slice none 0 0] 39)) := (Off.refl _ _).alloc _
  refine ⟨KG.alloc _, KX.alloc _, ((K2.drew).below HW (by omega)).alloc _, Blk.freshA _ _ _, World.ownsRow_nil _ _ _ _, own_lower (own_off HO h3 (fun _ _ h => h)) (by omega), ?_, by omega, by simp, Nat.le_refl _, hb, ?_⟩
  · intro k hk
    have := (HO.lt k hk)
    simp
    omega
  · exact ((HB.drew).trans (HW.mono (by omega))).alloc (by omega) _
theorem AddI.start2 (o : Obj) (hb : w.heap.size = b) (hs : b + 3 ≤ wA.heap.size) (K2 : Blk wA (b + 2) 39 [.slice none 0 0, .int .i64 0, .slice none 0 0])
    (HB : Below b w wA) (KG : Blk w5 b 25 G) (KX : Blk w5 (b + 1) 25 X) (HM : Blk w5 wA.heap.size 39 [.slice none 0 0, .int .i64 0, .slice none 0 0]) (HO : w5.ownsRow ((wA.alloc o).drew).heap.size 3 1 d6 dims.length (ints .i64 dims)) (HW : Below ((wA.alloc o).drew).heap.size ((wA.alloc o).drew) w5) :
    AddI w b wA.heap.size w5.heap.size G X exp d6 dims (.slice none 0 0) [] (((w5.setCell ⟨wA.heap.size, 0, none⟩ d6).setCell ⟨wA.heap.size, 1, none⟩ (.int .i64 exp)).setCell ⟨wA.heap.size, 2, none⟩ (.slice none 0 0)) := by
  have h1 : ((wA.alloc o).drew).heap.size = wA.heap.size + 1 := by show (wA.alloc o).heap.size = _; simp
  have h2 := HW.size
  rw [h1] at HO HW h2
  have h3 := off_set3 w5 wA.heap.size d6 (.int .i64 exp) (.slice none 0 0)
  refine ⟨KG.off h3 (by omega), KX.off h3 (by omega), (((K2.alloc o).drew).below HW (by omega)).off h3 (by omega), ((HM.put 0 _).put 1 _).put 2 _, World.ownsRow_nil _ _ _ _, own_lower (own_off HO h3 (fun k hk he => by have := (HO.lt k hk).1; omega)) (by omega), ?_, by omega, by have := HM.lt; omega, h3.size, hb, ?_⟩
  · intro k hk
    have := (HO.lt k hk)
    omega
  · exact ((((HB.alloc (by omega) o).drew).trans (HW.mono (by omega)))).trans (h3.below (by omega) (fun i hi => by omega))
theorem AddI.fin (h : AddI w b q B0 G X exp d6 dims u ys wr) (u0 u1 u2 : Value) {A : Option Addr} {c : Nat} {A' : Option Addr} {c' : Nat} (hd : d6 = .slice A dims.length c) (hu : u = .slice A' ys.length c')
    (db : Hid (∀ x ∈ dims, -9223372036854775808 ≤ x ∧ x ≤ 9223372036854775807)) (xb : Hid (∀ x ∈ ys, -1048576 ≤ x ∧ x ≤ 1048576)) (e0 : -9223372036854775808 ≤ exp) (e1 : exp ≤ 9223372036854775807) :
    FormA w dims exp ys 0 (.returned (.tuple #[.agg #[.slice A dims.length c, .int .i64 exp, .slice A' ys.length c'], .int .i64 0])) (((wr.setCell ⟨b + 2, 0, none⟩ u0).setCell ⟨b + 2, 1, none⟩ u1).setCell ⟨b + 2, 2, none⟩ u2) := by
  subst hd hu
  have hoff := off_set3 wr (b + 2) u0 u1 u2
  have hb := h.wb
  have q0 := h.q0
  have q1 := h.q1
  have g6 := own_off h.dim hoff (fun k hk he => by have := (h.dim.lt k hk).1; omega)
  have g7 := own_off h.own hoff (fun k hk he => by have := h.ulow hk; omega)
  refine ⟨_, _, _, _, rfl, ⟨Reads.of_own g6, Reads.of_own g7, db, Lib.hid (fun x hx => by have := xb.out x hx; omega), e0, e1⟩, ?_⟩
  rw [hb]
  exact h.bel.trans (hoff.below (by have := h.sz; omega) (fun i hi => by omega))
end
end Go.Proofs.Ythdahnjghpiheaa
