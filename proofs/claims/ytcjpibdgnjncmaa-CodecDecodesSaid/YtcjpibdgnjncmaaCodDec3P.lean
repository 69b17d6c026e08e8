/- codec.Decode: the memory. -/
import Derived.Test.YtcjpibdgnjncmaaCodDec2
namespace Go.Proofs.Ytcjpibdgnjncmaa
open Go.RowKit
set_option linter.unusedVariables false
set_option linter.unusedSimpArgs false

def szcells : List Value := [.int .u64 0, .int .i64 0, .slice none 0 0]
/-- ahead of the state: the told one's block is w0.heap.size -/
structure DH (w0 w : World) (q p : Nat) (A : Option Addr) (c : Nat) (z : CS) : Prop where
  cr : CR w q p A c z
  res : Blk w w0.heap.size 25 szcells
  bel : Below w0.heap.size w0 w
  lo : w0.heap.size < q ∧ w0.heap.size < p
  lA : Hid (0 < z.s.1.length → ∀ a, A = some a → w0.heap.size < a.block)
/-- the state at g, with its params -/
structure DG (w0 w : World) (q p g : Nat) (A : Option Addr) (c : Nat) (z : CS) (seed step : Int) (u : Value) (ps : List ParV) : Prop where
  cr : CR w q p A c z
  res : Blk w w0.heap.size 25 szcells
  bel : Below w0.heap.size w0 w
  lo : w0.heap.size < q ∧ w0.heap.size < p ∧ w0.heap.size < g
  lA : Hid (0 < z.s.1.length → ∀ a, A = some a → w0.heap.size < a.block ∧ a.block ≠ g ∧ u.ownBlock ≠ some a.block)
  st : Blk w g 25 [.int .u64 seed, .int .i64 step, u]
  ap : g ≠ p ∧ g ≠ q
  own : w.ownsRow w0.heap.size 43 7 u ps.length (ps.flatMap ParV.cells)
  vb : u.ownBlock ≠ some p ∧ u.ownBlock ≠ some q ∧ u.ownBlock ≠ some g ∧ u.ownBlock ≠ some w0.heap.size
  ins : Hid (∀ x ∈ ps, x.In (fun i => w0.heap.size < i ∧ i ≠ p ∧ i ≠ q ∧ i ≠ g ∧ u.ownBlock ≠ some i) w)
section
variable {w0 w w' w1 : World} {q p g : Nat} {A A' : Option Addr} {c c' : Nat} {z z' : CS} {sd sp : Int} {u u' : Value} {ps : List ParV}
theorem DH.step (h : DH w0 w q p A c z) (hc : CR w' q p A' c' z') (ho : Off (fun i => i = p ∨ i = q) w w') (hA : SameA A A') (hl : z'.s.1.length ≤ z.s.1.length) : DH w0 w' q p A' c' z' := by
  have hlo := h.lo
  refine ⟨hc, h.res.off ho (by show ¬ (_ ∨ _); omega), h.bel.trans (ho.below h.bel.size (fun i hi => by rcases hi with hi | hi <;> omega)), hlo, Lib.hid (fun h0 a ha => ?_)⟩
  obtain ⟨b, hb, e⟩ := hA a ha
  rw [← e]
  exact h.lA.out (by omega) b hb
theorem DH.read (h : DH w0 w q p A c z) {s' : RdV} (hr : Rd 84 w' p A' c' s'.1 s'.2) (hA : ∀ a, A' = some a → ∃ b, A = some b ∧ b.block = a.block) (ho : Off (fun i => i = p) w w') (hl : s'.1.length ≤ z.s.1.length) : DH w0 w' q p A' c' ⟨z.e, s'⟩ :=
  h.step (h.cr.read hr hA ho hl) (ho.mono (fun i hi => .inl (.inl hi))) hA hl
theorem DH.check (h : DH w0 w q p A c z) (hc : CR w' q p A c z') (ho : Off (fun i => i = q) w w') (hz : z'.s = z.s) : DH w0 w' q p A c z' :=
  h.step hc (ho.mono (fun i hi => .inl (.inr hi))) (SameA.refl A) (by rw [hz]; exact Nat.le_refl _)
theorem DH.below (h : DH w0 w q p A c z) (hb : Below w.heap.size w w') : DH w0 w' q p A c z :=
  ⟨h.cr.below hb, h.res.below hb h.res.lt, h.bel.trans (hb.mono h.bel.size), h.lo, h.lA⟩
theorem DH.start (h : DH w0 w q p A c z) (sd sp : Int) : DG w0 (w.alloc (.cells #[.int .u64 sd, .int .i64 sp, .slice none 0 0] 25)) q p w.heap.size A c z sd sp (.slice none 0 0) [] := by
  have hb := (Below.refl w.heap.size w).alloc (Nat.le_refl _) (.cells #[.int .u64 sd, .int .i64 sp, .slice none 0 0] 25)
  have h2 := h.below hb
  have h3 := h.cr.lt
  have h4 := h.res.lt
  exact ⟨h2.cr, h2.res, h2.bel, ⟨h.lo.1, h.lo.2, h4⟩, Lib.hid (fun h0 a ha => ⟨h.lA.out h0 a ha, by have := h.cr.alt h0 a ha; omega, by simp [Value.ownBlock]⟩), Blk.fresh w 25 [.int .u64 sd, .int .i64 sp, .slice none 0 0], ⟨by omega, by omega⟩, World.ownsRow_nil _ _ _ _, by simp [Value.ownBlock], Lib.hid (by simp)⟩
/-- what lies above all turns -/
theorem DG.below (h : DG w0 w q p g A c z sd sp u ps) (hb : Below w.heap.size w w') : DG w0 w' q p g A c z sd sp u ps := by
  have ho : Off (fun i => w.heap.size ≤ i) w w' := Off.of_below hb (fun i hi => .inl hi)
  exact ⟨h.cr.below hb, h.res.below hb h.res.lt, h.bel.trans (hb.mono h.bel.size), h.lo, h.lA, h.st.below hb h.st.lt, h.ap, own_off h.own ho (fun k hk => by have := (h.own.lt k hk).2; omega), h.vb, Lib.hid (fun x hx => (h.ins.out x hx).off ho (fun i _ hi => by omega) (fun i hi _ => hi))⟩
theorem DG.alloc (h : DG w0 w q p g A c z sd sp u ps) (o : Obj) : DG w0 (w.alloc o) q p g A c z sd sp u ps := h.below ((Below.refl _ w).alloc (Nat.le_refl _) o)
theorem DG.drew (h : DG w0 w q p g A c z sd sp u ps) : DG w0 w.drew q p g A c z sd sp u ps := h.below (Below.refl _ w).drew
theorem DG.step (h : DG w0 w q p g A c z sd sp u ps) (hc : CR w' q p A' c' z') (ho : Off (fun i => i = p ∨ i = q) w w') (hA : SameA A A') (hl : z'.s.1.length ≤ z.s.1.length) : DG w0 w' q p g A' c' z' sd sp u ps := by
  have hlo := h.lo
  have hap := h.ap
  refine ⟨hc, h.res.off ho (by show ¬ (_ ∨ _); omega), h.bel.trans (ho.below h.bel.size (fun i hi => by rcases hi with hi | hi <;> omega)), hlo, Lib.hid (fun h0 a ha => ?_), h.st.off ho (by show ¬ (_ ∨ _); omega), hap, own_off h.own ho (fun k hk => ?_), h.vb, Lib.hid (fun x hx => (h.ins.out x hx).off ho (fun i hi _ hj => by rcases hj with hj | hj; exact hi.2.1 hj; exact hi.2.2.1 hj) (fun i hi _ => hi))⟩
  · obtain ⟨b, hb, e⟩ := hA a ha
    rw [← e]
    exact h.lA.out (by omega) b hb
  · rintro (e | e)
    · exact h.vb.1 (by rw [hk, e])
    · exact h.vb.2.1 (by rw [hk, e])
theorem DG.check (h : DG w0 w q p g A c z sd sp u ps) (hc : CR w' q p A c z') (ho : Off (fun i => i = q) w w') (hz : z'.s = z.s) : DG w0 w' q p g A c z' sd sp u ps :=
  h.step hc (ho.mono (fun i hi => .inl (.inr hi))) (SameA.refl A) (by rw [hz]; exact Nat.le_refl _)
theorem DG.read (h : DG w0 w q p g A c z sd sp u ps) {s' : RdV} (hr : Rd 84 w' p A' c' s'.1 s'.2) (hA : ∀ a, A' = some a → ∃ b, A = some b ∧ b.block = a.block) (ho : Off (fun i => i = p) w w') (hl : s'.1.length ≤ z.s.1.length) : DG w0 w' q p g A' c' ⟨z.e, s'⟩ sd sp u ps :=
  h.step (h.cr.read hr hA ho hl) (ho.mono (fun i hi => .inl (.inl hi))) hA hl
/-- a param is put behind -/
theorem DG.push (h : DG w0 w q p g A c z sd sp u ps) {x : ParV} {G : Nat} (hx : x.In (fun i => G ≤ i) w) (hG : w0.heap.size < G ∧ q < G ∧ p < G ∧ g < G ∧ ∀ k, u.ownBlock = some k → k < G)
    (ho : w1.ownsRow w0.heap.size 43 7 u' (ps ++ [x]).length ((ps ++ [x]).flatMap ParV.cells)) (hg : w.grownBy w1 u.ownBlock) (hf : Fresh w u u') :
    DG w0 (w1.setCell ⟨g, 2, none⟩ u') q p g A c z sd sp u' (ps ++ [x]) := by
  have hlo := h.lo
  have hap := h.ap
  have hvb := h.vb
  have h3 := h.cr.lt
  have h4 := h.st.lt
  have h5 := h.res.lt
  have hof : Off (fun i => i = g ∨ u.ownBlock = some i) w (w1.setCell ⟨g, 2, none⟩ u') := ((Off.refl _ w).grown hg (fun k hk => .inl (.inr hk))).setCell (p := ⟨g, 2, none⟩) (.inl (.inl rfl)) _
  have hv' : ∀ k, u'.ownBlock = some k → k < w.heap.size → u.ownBlock = some k := fun k hk hlt => by
    rcases hf.off hk with e | e
    · exact e
    · omega
  have hn : ∀ i, i ≠ g → u.ownBlock ≠ some i → ¬ (i = g ∨ u.ownBlock = some i) := fun i h1 h2 h3 => by rcases h3 with e | e; exact h1 e; exact h2 e
  have hS : ∀ i, i < w.heap.size → u.ownBlock ≠ some i → u'.ownBlock ≠ some i := fun i hi hu he => hu (hv' i he hi)
  refine ⟨h.cr.offA hof (hn q (Ne.symm hap.2) hvb.2.1) (hn p (Ne.symm hap.1) hvb.1) (fun h0 a ha => hn _ (h.lA.out h0 a ha).2.1 (h.lA.out h0 a ha).2.2), h.res.off hof (hn _ (by omega) hvb.2.2.2), h.bel.trans (hof.below h.bel.size (fun i hi => ?_)), hlo, Lib.hid (fun h0 a ha => ⟨(h.lA.out h0 a ha).1, (h.lA.out h0 a ha).2.1, hS _ (h.cr.alt h0 a ha) (h.lA.out h0 a ha).2.2⟩), ?_, hap, own_off ho ((Off.refl (fun i => i = g) w1).setCell (p := ⟨g, 2, none⟩) (.inl rfl) u') (fun k hk e => hS g h4 hvb.2.2.1 (by rw [hk, e])), ⟨hS _ h3.2 hvb.1, hS _ h3.1 hvb.2.1, hS _ h4 hvb.2.2.1, hS _ h5 hvb.2.2.2⟩, Lib.hid (fun y hy => ?_)⟩
  · rcases hi with e | e
    · omega
    · exact (h.own.lt i e).1
  · exact (h.st.grown hg (Ne.symm hvb.2.2.1)).put 2 u'
  · rcases List.mem_append.1 hy with hy | hy
    · exact (h.ins.out y hy).off hof (fun i hi _ => hn i hi.2.2.2.1 hi.2.2.2.2) (fun i hi hl => ⟨hi.1, hi.2.1, hi.2.2.1, hi.2.2.2.1, hS i hl hi.2.2.2.2⟩)
    · rw [List.mem_singleton.1 hy]
      have hne : ∀ i, G ≤ i → u.ownBlock ≠ some i := fun i hi e => by have := hG.2.2.2.2 i e; omega
      exact hx.off hof (fun i hi _ => hn i (by omega) (hne i hi)) (fun i hi hl => ⟨by omega, by omega, by omega, by omega, hS i hl (hne i hi)⟩)
end
/-- three cells are put -/
def three (w : World) (r : Nat) (a b d : Value) : World := ((w.setCell ⟨r, 0, none⟩ a).setCell ⟨r, 1, none⟩ b).setCell ⟨r, 2, none⟩ d
theorem three_ok {w : World} {r : Nat} {t : TypeId} {a' b' d' : Value} (h : Blk w r t [a', b', d']) (a b d : Value) : Off (fun i => i = r) w (three w r a b d) ∧ Blk (three w r a b d) r t [a, b, d] := by
  unfold three
  exact ⟨(((Off.refl (fun i => i = r) w).setCell (p := ⟨r, 0, none⟩) (.inl rfl) _).setCell (p := ⟨r, 1, none⟩) (.inl rfl) _).setCell (p := ⟨r, 2, none⟩) (.inl rfl) _, ((h.put 0 a).put 1 b).put 2 d⟩
/-- what Decode tells -/
def DecOf (w : World) (bs : List UInt8) (en : Ending) (w' : World) : Prop :=
  Below w.heap.size w w' ∧ ∃ (ps : List ParV) (v : Value), en = .returned (.tuple #[.agg #[.int .u64 (decode bs).2.1, .int .i64 (decode bs).2.2.1, v], .int .i64 (decode bs).1]) ∧
    ((decode bs).1 = 0 → ps.map (·.c) = (decode bs).2.2.2) ∧ ((decode bs).1 ≠ 0 → ps = []) ∧ w'.ownsRow w.heap.size 43 7 v ps.length (ps.flatMap ParV.cells) ∧ ∀ x ∈ ps, x.In (fun i => w.heap.size ≤ i) w'
end Go.Proofs.Ytcjpibdgnjncmaa
