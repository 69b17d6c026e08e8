/- A disk in memory. -/
import Derived.Test.YtjddplddpdcmdaaMany
import Derived.Test.YtjddplddpdcmdaaSecPlain
import Derived.Test.YtjddplddpdcmdaaRows
import Derived.BigQuiet
import Derived.Deep.QuietTactic
namespace Go.Proofs.Ytjddplddpdcmdaa
open Go.RowKit
set_option linter.unusedVariables false
set_option linter.unusedSimpArgs false

/-- a slice whose cells lie in a block of S -/
def ReadsIn (sz : Nat) (S : Nat → Prop) (w : World) (v : Value) (xs : List Value) : Prop :=
  ∃ A n c, v = .slice A n c ∧ xs.length = n * sz ∧ n ≤ c ∧ c ≤ maxLen ∧ Hid (0 < n → ∃ g o, A = some ⟨g, o, none⟩ ∧ S g ∧ g < w.heap.size ∧ ∀ j u, xs[j]? = some u → w.cell? ⟨g, o + j, none⟩ = some u)
section
variable {S T S' : Nat → Prop} {w w' : World} {v : Value} {xs : List Value} {sz B : Nat}
theorem ReadsIn.off (h : ReadsIn sz S w v xs) (ho : Off T w w') (hT : ∀ g, S g → g < w.heap.size → ¬ T g) : ReadsIn sz S w' v xs := by
  obtain ⟨A, n, c, e, hl, hc, hm, ha⟩ := h
  refine ⟨A, n, c, e, hl, hc, hm, fun hn => ?_⟩
  obtain ⟨g, o, hA, hs, hg, hx⟩ := ha.out hn
  exact ⟨g, o, hA, hs, by have := ho.size; omega, fun j u hu => (ho.cell (p := ⟨g, o + j, none⟩) hg (hT g hs hg)).trans (hx j u hu)⟩
theorem ReadsIn.below (h : ReadsIn sz S w v xs) (hb : Below w.heap.size w w') : ReadsIn sz S w' v xs :=
  h.off (Off.of_below hb (S := fun i => w.heap.size ≤ i) (fun i hi => .inl hi)) (fun g _ hg => by omega)
theorem ReadsIn.imp (h : ReadsIn sz S w v xs) (hS : ∀ g, S g → g < w.heap.size → S' g) : ReadsIn sz S' w v xs := by
  obtain ⟨A, n, c, e, hl, hc, hm, ha⟩ := h
  refine ⟨A, n, c, e, hl, hc, hm, fun hn => ?_⟩
  obtain ⟨g, o, hA, hs, hg, hx⟩ := ha.out hn
  exact ⟨g, o, hA, hS g hs hg, hg, hx⟩
theorem ReadsIn.nil_ (S : Nat → Prop) (w : World) : ReadsIn sz S w (.slice none 0 0) [] := ⟨none, 0, 0, rfl, by simp, by omega, by unfold maxLen; omega, fun h => absurd h (by omega)⟩
theorem ReadsIn.of_reads (h : Reads w B v xs) (hB : B ≤ w.heap.size) : ReadsIn 1 (fun g => g < B) w v xs := by
  obtain ⟨A, n, c, e, hl, hc, hm, ha⟩ := h
  refine ⟨A, n, c, e, by omega, hc, hm, fun hn => ?_⟩
  obtain ⟨g, o, hA, hg, hx⟩ := ha.out hn
  exact ⟨g, o, hA, hg, by omega, hx⟩
theorem ReadsIn.of_readsN (h : ReadsN sz w B v xs) (hB : B ≤ w.heap.size) : ReadsIn sz (fun g => g < B) w v xs := by
  obtain ⟨A, n, c, e, hl, hc, hm, ha⟩ := h
  refine ⟨A, n, c, e, hl, hc, hm, fun hn => ?_⟩
  obtain ⟨g, o, hA, hg, hx⟩ := ha.out hn
  exact ⟨g, o, hA, hg, by omega, hx⟩
theorem ReadsIn.readsN (h : ReadsIn sz S w v xs) : ReadsN sz w w.heap.size v xs := by
  obtain ⟨A, n, c, e, hl, hc, hm, ha⟩ := h
  refine ⟨A, n, c, e, hl, hc, hm, fun hn => ?_⟩
  obtain ⟨g, o, hA, _, hg, hx⟩ := ha.out hn
  exact ⟨g, o, hA, hg, hx⟩
theorem ReadsIn.reads (h : ReadsIn 1 S w v xs) : Reads w w.heap.size v xs := h.readsN.one
theorem ReadsIn.of_own {base n : Nat} {e : TypeId} (hs : 0 < sz) (h : w.ownsRow base e sz v n xs) : ReadsIn sz (fun g => v.ownBlock = some g) w v xs := by
  obtain ⟨A, n', c, rfl, hl, hc, hm, ha⟩ := ReadsN.of_own hs h
  refine ⟨A, n', c, rfl, hl, hc, hm, fun hn => ?_⟩
  obtain ⟨g, o, hA, hg, hx⟩ := ha.out hn
  exact ⟨g, o, hA, by rw [hA]; rfl, hg, hx⟩
theorem ReadsIn.of_blk {g n : Nat} {t : TypeId} (h : Blk w g t xs) (hn : xs.length = n * sz) (hm : n ≤ maxLen) : ReadsIn sz (fun i => i = g) w (.slice (some ⟨g, 0, none⟩) n n) xs :=
  ⟨_, _, _, rfl, hn, Nat.le_refl _, hm, fun _ => ⟨g, 0, rfl, rfl, h.lt, fun j u hu => by rw [Nat.zero_add, h.cell]; exact hu⟩⟩
theorem ReadsIn.drewN (h : ReadsIn sz S w v xs) (k : Nat) : ReadsIn sz S (w.drewN k) v xs := h
end

def wrV (e : Nat × List UInt8) : List Value := .int .i64 (e.1 : Int) :: bytesV e.2
theorem wrV_len {e : Nat × List UInt8} (h : e.2.length = 64) : (wrV e).length = 65 := by simp [wrV, length_bytesV, h]
theorem wrV_one (l : List (Nat × List UInt8)) : ∀ u ∈ l.flatMap wrV, u.oneCell' = true := by
  intro u hu
  obtain ⟨e, _, h⟩ := List.mem_flatMap.1 hu
  rcases List.mem_cons.1 h with rfl | h
  · rfl
  · exact bytesV_one _ u h
theorem rows_one (l : List (List UInt8)) : ∀ u ∈ l.flatMap bytesV, u.oneCell' = true := by
  intro u hu
  obtain ⟨e, _, h⟩ := List.mem_flatMap.1 hu
  exact bytesV_one _ u h
theorem secs_len {l : List (List UInt8)} (h : ∀ b ∈ l, b.length = 64) : ∀ b ∈ l, (bytesV b).length = 64 := fun b hb => by rw [length_bytesV]; exact h b hb
/-- a disk: its own block, three rows -/
structure DAt (B : Nat) (w : World) (p : Nat) (nv sv lv : Value) (s : Dk) : Prop where
  blk : Blk w p 64 [nv, sv, lv, .int .i64 s.ops, .int .i64 s.fuse, .bool s.down]
  now : w.ownsRow B 74 64 nv s.now.length (s.now.flatMap bytesV)
  sure : w.ownsRow B 74 64 sv s.sure.length (s.sure.flatMap bytesV)
  log : w.ownsRow B 76 65 lv s.log.length (s.log.flatMap wrV)
  pB : B ≤ p
  np : nv.ownBlock ≠ some p
  sp : sv.ownBlock ≠ some p
  lp : lv.ownBlock ≠ some p
  ns : ∀ k, nv.ownBlock = some k → sv.ownBlock ≠ some k
  nl : ∀ k, nv.ownBlock = some k → lv.ownBlock ≠ some k
  sl : ∀ k, sv.ownBlock = some k → lv.ownBlock ≠ some k
  ok : s.Ok
/-- the blocks of a disk -/
def Own (p : Nat) (nv sv lv : Value) (i : Nat) : Prop := i = p ∨ nv.ownBlock = some i ∨ sv.ownBlock = some i ∨ lv.ownBlock = some i
/-- a disk, whose blocks are among those of O -/
def DiskIs (B : Nat) (O : Nat → Prop) (w : World) (p : Nat) (s : Dk) : Prop := ∃ nv sv lv, DAt B w p nv sv lv s ∧ ∀ i, Own p nv sv lv i → O i
section
variable {B p : Nat} {O O' T : Nat → Prop} {w w' : World} {s : Dk} {nv sv lv : Value}
theorem DAt.lt (h : DAt B w p nv sv lv s) : ∀ i, Own p nv sv lv i → B ≤ i ∧ i < w.heap.size := by
  intro i hi
  rcases hi with rfl | hi | hi | hi
  · exact ⟨h.pB, h.blk.lt⟩
  · exact h.now.lt i hi
  · exact h.sure.lt i hi
  · exact h.log.lt i hi
theorem DAt.off (h : DAt B w p nv sv lv s) (ho : Off T w w') (hT : ∀ i, Own p nv sv lv i → ¬ T i) : DAt B w' p nv sv lv s :=
  ⟨h.blk.off ho (hT p (.inl rfl)), own_off h.now ho (fun k hk => hT k (.inr (.inl hk))), own_off h.sure ho (fun k hk => hT k (.inr (.inr (.inl hk)))), own_off h.log ho (fun k hk => hT k (.inr (.inr (.inr hk)))),
    h.pB, h.np, h.sp, h.lp, h.ns, h.nl, h.sl, h.ok⟩
theorem DiskIs.off (h : DiskIs B O w p s) (ho : Off T w w') (hT : ∀ i, O i → i < w.heap.size → ¬ T i) : DiskIs B O w' p s := by
  obtain ⟨nv, sv, lv, hd, hO⟩ := h
  exact ⟨nv, sv, lv, hd.off ho (fun i hi => hT i (hO i hi) (hd.lt i hi).2), hO⟩
theorem DiskIs.below (h : DiskIs B O w p s) (hb : Below w.heap.size w w') : DiskIs B O w' p s :=
  h.off (Off.of_below hb (S := fun i => w.heap.size ≤ i) (fun i hi => .inl hi)) (fun g _ hg => by omega)
theorem DiskIs.imp (h : DiskIs B O w p s) (hO : ∀ i, O i → i < w.heap.size → B ≤ i → O' i) : DiskIs B O' w p s := by
  obtain ⟨nv, sv, lv, hd, h2⟩ := h
  exact ⟨nv, sv, lv, hd, fun i hi => hO i (h2 i hi) (hd.lt i hi).2 (hd.lt i hi).1⟩
theorem DiskIs.ok (h : DiskIs B O w p s) : s.Ok := by
  obtain ⟨nv, sv, lv, hd, _⟩ := h
  exact hd.ok
theorem DiskIs.low (h : DiskIs B O w p s) {B' : Nat} (hB : B' ≤ B) : DiskIs B' O w p s := by
  obtain ⟨nv, sv, lv, hd, h2⟩ := h
  exact ⟨nv, sv, lv, ⟨hd.blk, own_lower hd.now hB, own_lower hd.sure hB, own_lower hd.log hB, by have := hd.pB; omega, hd.np, hd.sp, hd.lp, hd.ns, hd.nl, hd.sl, hd.ok⟩, h2⟩
theorem DiskIs.drewN (h : DiskIs B O w p s) (n : Nat) : DiskIs B O (w.drewN n) p s := h.off ((Off.refl (fun _ => False) w).drewN n) (fun _ _ _ h => h)
/-- the blocks of before, and what was made since -/
def More (O : Nat → Prop) (a b : Nat) (i : Nat) : Prop := O i ∨ (a ≤ i ∧ i < b)
/-- what an operation on a disk leaves behind -/
structure Did (B : Nat) (O : Nat → Prop) (w : World) (p : Nat) (s' : Dk) (w' : World) : Prop where
  is : DiskIs B (More O w.heap.size w'.heap.size) w' p s'
  off : Off O w w'
theorem DAt.did (h : DAt B w' p nv sv lv s) (hO : ∀ i, Own p nv sv lv i → O i ∨ w.heap.size ≤ i) (ho : Off O w w') : Did B O w p s w' :=
  ⟨⟨nv, sv, lv, h, fun i hi => by
    rcases hO i hi with h1 | h1
    · exact .inl h1
    · exact .inr ⟨h1, (h.lt i hi).2⟩⟩, ho⟩
end
theorem elem_sec : ElemN Try.prog 61 74 64 (.agg (List.replicate 64 (Value.int .u8 0)).toArray) 64 := ⟨Try.underlying61, by kernel_rfl, by rfl, by omega⟩
theorem elem_wr : ElemN Try.prog 62 76 65 (.agg (Value.int .i64 0 :: List.replicate 64 (Value.int .u8 0)).toArray) 72 := ⟨Try.underlying62, by kernel_rfl, by rfl, by omega⟩
end Go.Proofs.Ytjddplddpdcmdaa
