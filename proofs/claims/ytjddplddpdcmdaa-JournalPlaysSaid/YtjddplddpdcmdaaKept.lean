/- One owned row, and blocks beside it that are known whole, through allocations, stores and appends. -/
import Derived.Test.YtjddplddpdcmdaaExtN
namespace Go.Proofs.Ytjddplddpdcmdaa
open Go.RowKit
set_option linter.unusedVariables false
set_option linter.unusedSimpArgs false

/-- behind w0: the row v (its elements have sz cells) has the cells xs; the blocks bs are known whole, none of them is the row's; what was below stays -/
structure Kept (w0 W : World) (e : TypeId) (sz : Nat) (v : Value) (n : Nat) (xs : List Value) (bs : List (Nat × TypeId × List Value)) : Prop where
  bel : Below w0.heap.size w0 W
  own : W.ownsRow w0.heap.size e sz v n xs
  blk : ∀ b ∈ bs, Blk W b.1 b.2.1 b.2.2 ∧ v.ownBlock ≠ some b.1 ∧ w0.heap.size ≤ b.1
section
variable {w0 W W' : World} {e t : TypeId} {sz n : Nat} {v v' : Value} {xs ys cs : List Value} {bs : List (Nat × TypeId × List Value)}
theorem ownsRow_none (W : World) (b : Nat) (e : TypeId) (sz : Nat) : W.ownsRow b e sz (.slice none 0 0) 0 [] := ⟨by simp, .inl ⟨rfl, rfl⟩⟩
theorem Kept.start (w : World) (e : TypeId) (sz : Nat) : Kept w w e sz (.slice none 0 0) 0 [] [] := ⟨Below.refl _ _, ownsRow_none _ _ _ _, fun _ h => by cases h⟩
theorem Kept.drew (h : Kept w0 W e sz v n xs bs) : Kept w0 W.drew e sz v n xs bs := ⟨h.bel.drew, h.own, h.blk⟩
theorem Kept.lt (h : Kept w0 W e sz v n xs bs) : ∀ k, v.ownBlock = some k → w0.heap.size ≤ k ∧ k < W.heap.size := fun k hk => h.own.lt k hk
/-- what goes on behind it, and touches neither -/
theorem Kept.below (h : Kept w0 W e sz v n xs bs) (hb : Below W.heap.size W W') : Kept w0 W' e sz v n xs bs := by
  have ho : Off (fun i => W.heap.size ≤ i) W W' := Off.of_below hb (fun i hi => .inl hi)
  exact ⟨h.bel.trans (hb.mono h.bel.size), own_off h.own ho (fun k hk => by have := (h.lt k hk).2; omega), fun b hbm => ⟨(h.blk b hbm).1.below hb (h.blk b hbm).1.lt, (h.blk b hbm).2⟩⟩
theorem Kept.alloc (h : Kept w0 W e sz v n xs bs) (t : TypeId) (cs : Array Value) : Kept w0 (W.alloc (.cells cs t)) e sz v n xs ((W.heap.size, t, cs.toList) :: bs) := by
  have h2 := h.below ((Below.refl W.heap.size W).alloc (Nat.le_refl _) (.cells cs t))
  refine ⟨h2.bel, h2.own, fun b hb => ?_⟩
  rcases List.mem_cons.1 hb with rfl | hb
  · exact ⟨Blk.freshA W t cs, fun hk => by have := (h.lt _ hk).2; simp at this, h.bel.size⟩
  · exact h2.blk b hb
/-- a literal without elements, as the row -/
theorem Kept.empty (h : Kept w0 W e sz (.slice none 0 0) 0 [] bs) : Kept w0 (W.alloc (.cells #[] e)) e sz (.slice (some ⟨W.heap.size, 0, none⟩) 0 0) 0 [] bs := by
  have h2 := h.below ((Below.refl W.heap.size W).alloc (Nat.le_refl _) (.cells #[] e))
  refine ⟨h2.bel, ⟨by simp, .inr ⟨W.heap.size, 0, #[], rfl, h.bel.size, heap_alloc_new W _, Nat.le_refl _, by unfold maxLen; omega, by simp, by simp⟩⟩, fun b hb => ⟨(h2.blk b hb).1, fun hk => ?_, (h2.blk b hb).2.2⟩⟩
  have := (h.blk b hb).1.lt
  simp [Value.ownBlock] at hk
  omega
theorem Kept.grow (h : Kept w0 W e sz v n xs bs) {m : Nat} (hown : W'.ownsRow w0.heap.size e sz v' m ys) (hg : W.grownBy W' v.ownBlock) (hf : Fresh W v v') : Kept w0 W' e sz v' m ys bs := by
  refine ⟨h.bel.grown hg h.bel.size (fun k hk => (h.lt k hk).1), hown, fun b hb => ?_⟩
  obtain ⟨k1, k2, k3⟩ := h.blk b hb
  refine ⟨k1.grown hg (fun he => k2 he.symm), fun hk => ?_, k3⟩
  rcases hf.off hk with h4 | h4
  · exact k2 h4
  · have := k1.lt; omega
theorem Kept.only {b : Nat × TypeId × List Value} (h : Kept w0 W e sz v n xs bs) (hb : b ∈ bs) : Kept w0 W e sz v n xs [b] := ⟨h.bel, h.own, fun x hx => by
  obtain rfl := List.mem_singleton.1 hx
  exact h.blk _ hb⟩
theorem Kept.set {g : Nat} (h : Kept w0 W e sz v n xs [(g, t, cs)]) (i : Nat) (u : Value) : Kept w0 (W.setCell ⟨g, i, none⟩ u) e sz v n xs [(g, t, cs.set i u)] := by
  obtain ⟨k1, k2, k3⟩ := h.blk _ (List.mem_singleton.2 rfl)
  have ho : Off (fun x => x = g) W (W.setCell ⟨g, i, none⟩ u) := (Off.refl (fun x => x = g) W).setCell (p := ⟨g, i, none⟩) (.inl rfl) u
  refine ⟨h.bel.trans (ho.below h.bel.size (fun x hx => by rw [hx]; exact k3)), own_off h.own ho (fun k hk he => k2 (by rw [hk, he])), fun b hb => ?_⟩
  obtain rfl := List.mem_singleton.1 hb
  exact ⟨k1.put i u, k2, k3⟩
end
end Go.Proofs.Ytjddplddpdcmdaa
