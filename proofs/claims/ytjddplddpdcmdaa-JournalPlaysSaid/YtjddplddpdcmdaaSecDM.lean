/- Disks, blocks known whole, and slices that stay as they read: all of a law's memory, told apart. -/
import Derived.Test.YtjddplddpdcmdaaSecLaw
namespace Go.Proofs.Ytjddplddpdcmdaa
open Go.RowKit
set_option linter.unusedVariables false
set_option linter.unusedSimpArgs false

/-- since w0: disks 'ds', each of blocks of its own; blocks 'bs' known whole; readings 'rs' (cells of an element, slice, cells) out of blocks that are neither -/
def DM (w0 W : World) (ds : List (Nat × Dk)) (bs : List (Nat × TypeId × List Value)) (rs : List (Nat × Value × List Value)) : Prop :=
  ∃ (O : Nat → Nat → Prop) (U : Nat → Prop), (ds.map (·.1)).Nodup ∧ (∀ d ∈ ds, DiskIs w0.heap.size (O d.1) W d.1 d.2 ∧ ∀ i, O d.1 i → w0.heap.size ≤ i ∧ i < W.heap.size) ∧ (∀ d ∈ ds, ∀ e ∈ ds, d.1 ≠ e.1 → ∀ i, O d.1 i → ¬ O e.1 i) ∧
    Below w0.heap.size w0 W ∧ ((bs.map (·.1)).Nodup ∧ ∀ b ∈ bs, Blk W b.1 b.2.1 b.2.2 ∧ w0.heap.size ≤ b.1 ∧ ∀ d ∈ ds, ¬ O d.1 b.1) ∧
    (∀ i, U i → i < W.heap.size ∧ (∀ d ∈ ds, ¬ O d.1 i) ∧ ∀ b ∈ bs, b.1 ≠ i) ∧ ∀ r ∈ rs, ReadsIn r.1 U W r.2.1 r.2.2
section
variable {w0 W W' : World} {ds ds' : List (Nat × Dk)} {bs bs' : List (Nat × TypeId × List Value)} {rs rs' : List (Nat × Value × List Value)} {p g sz : Nat} {s s' : Dk} {t : TypeId} {cs cs' : List Value} {v : Value} {xs : List Value}
theorem DM.start (w : World) : DM w w [] [] [] :=
  ⟨fun _ _ => False, fun _ => False, by simp, (fun _ h => by cases h), (fun _ h => by cases h), Below.refl _ _, ⟨by simp, fun _ h => by cases h⟩, (fun _ h => h.elim), (fun _ h => by cases h)⟩
theorem DM.bel (h : DM w0 W ds bs rs) : Below w0.heap.size w0 W := by
  obtain ⟨O, U, h0, h1, h2, h3, h4⟩ := h
  exact h3
theorem DM.blk (h : DM w0 W ds bs rs) {b : Nat × TypeId × List Value} (hb : b ∈ bs) : Blk W b.1 b.2.1 b.2.2 := by
  obtain ⟨O, U, h0, h1, h2, h3, h4, h5⟩ := h
  exact (h4.2 b hb).1
theorem DM.reads (h : DM w0 W ds bs rs) {r : Nat × Value × List Value} (hr : r ∈ rs) : ∃ U : Nat → Prop, (∀ b ∈ bs, ¬ U b.1) ∧ ReadsIn r.1 U W r.2.1 r.2.2 := by
  obtain ⟨O, U, h0, h1, h2, h3, h4, h5, h6⟩ := h
  exact ⟨U, fun b hb hu => (h5 _ hu).2.2 b hb rfl, h6 r hr⟩
theorem DM.readsN (h : DM w0 W ds bs rs) (hr : (sz, v, xs) ∈ rs) : ReadsN sz W W.heap.size v xs := by
  obtain ⟨U, _, h1⟩ := h.reads hr
  exact h1.readsN
theorem DM.reads1 (h : DM w0 W ds bs rs) (hr : (1, v, xs) ∈ rs) : Reads W W.heap.size v xs := by
  obtain ⟨U, _, h1⟩ := h.reads hr
  exact h1.reads
theorem DM.perm (h : DM w0 W ds bs rs) (hp : ds.Perm ds') : DM w0 W ds' bs rs := by
  obtain ⟨O, U, h0, h1, h2, h3, h4, h5, h6⟩ := h
  exact ⟨O, U, (hp.map _).nodup h0, fun d hd => h1 d (hp.mem_iff.2 hd), fun d hd e he => h2 d (hp.mem_iff.2 hd) e (hp.mem_iff.2 he), h3, ⟨h4.1, fun b hb => ⟨(h4.2 b hb).1, (h4.2 b hb).2.1, fun d hd => (h4.2 b hb).2.2 d (hp.mem_iff.2 hd)⟩⟩, fun i hi => ⟨(h5 i hi).1, fun d hd => (h5 i hi).2.1 d (hp.mem_iff.2 hd), (h5 i hi).2.2⟩, h6⟩
theorem DM.permB (h : DM w0 W ds bs rs) (hp : bs.Perm bs') : DM w0 W ds bs' rs := by
  obtain ⟨O, U, h0, h1, h2, h3, h4, h5, h6⟩ := h
  exact ⟨O, U, h0, h1, h2, h3, ⟨(hp.map _).nodup h4.1, fun b hb => h4.2 b (hp.mem_iff.2 hb)⟩, fun i hi => ⟨(h5 i hi).1, (h5 i hi).2.1, fun b hb => (h5 i hi).2.2 b (hp.mem_iff.2 hb)⟩, h6⟩
theorem DM.drop (h : DM w0 W ((p, s) :: ds) bs rs) : DM w0 W ds bs rs := by
  obtain ⟨O, U, h0, h1, h2, h3, h4, h5, h6⟩ := h
  exact ⟨O, U, (List.nodup_cons.1 h0).2, fun d hd => h1 d (.tail _ hd), fun d hd e he => h2 d (.tail _ hd) e (.tail _ he), h3, ⟨h4.1, fun b hb => ⟨(h4.2 b hb).1, (h4.2 b hb).2.1, fun d hd => (h4.2 b hb).2.2 d (.tail _ hd)⟩⟩, fun i hi => ⟨(h5 i hi).1, fun d hd => (h5 i hi).2.1 d (.tail _ hd), (h5 i hi).2.2⟩, h6⟩
theorem DM.dropB {b : Nat × TypeId × List Value} (h : DM w0 W ds (b :: bs) rs) : DM w0 W ds bs rs := by
  obtain ⟨O, U, h0, h1, h2, h3, h4, h5, h6⟩ := h
  exact ⟨O, U, h0, h1, h2, h3, ⟨(List.nodup_cons.1 h4.1).2, fun b hb => h4.2 b (.tail _ hb)⟩, fun i hi => ⟨(h5 i hi).1, (h5 i hi).2.1, fun b hb => (h5 i hi).2.2 b (.tail _ hb)⟩, h6⟩
theorem DM.subR (h : DM w0 W ds bs rs) (hr : ∀ r ∈ rs', r ∈ rs) : DM w0 W ds bs rs' := by
  obtain ⟨O, U, h0, h1, h2, h3, h4, h5, h6⟩ := h
  exact ⟨O, U, h0, h1, h2, h3, h4, h5, fun r hrm => h6 r (hr r hrm)⟩
theorem DM.ok (h : DM w0 W ((p, s) :: ds) bs rs) : s.Ok := by
  obtain ⟨O, U, h0, h1, _⟩ := h
  exact (h1 _ (.head _)).1.ok
/-- what goes on behind all of it -/
theorem DM.below (h : DM w0 W ds bs rs) (hb : Below W.heap.size W W') : DM w0 W' ds bs rs := by
  obtain ⟨O, U, h0, h1, h2, h3, h4, h5, h6⟩ := h
  have hs := hb.size
  exact ⟨O, U, h0, fun d hd => ⟨(h1 d hd).1.below hb, fun i hi => by have := (h1 d hd).2 i hi; omega⟩, h2, h3.trans (hb.mono h3.size), ⟨h4.1, fun b hb' => ⟨(h4.2 b hb').1.below hb (h4.2 b hb').1.lt, (h4.2 b hb').2⟩⟩,
    fun i hi => ⟨by have := (h5 i hi).1; omega, (h5 i hi).2⟩, fun r hr => (h6 r hr).below hb⟩
theorem DM.drewN (h : DM w0 W ds bs rs) (n : Nat) : DM w0 (W.drewN n) ds bs rs := h.below ⟨rfl, rfl, rfl, Nat.le_refl _, fun _ _ => rfl⟩
theorem DM.drew (h : DM w0 W ds bs rs) : DM w0 W.drew ds bs rs := h.below ⟨rfl, rfl, rfl, Nat.le_refl _, fun _ _ => rfl⟩
/-- .. with a block more -/
theorem DM.more (h : DM w0 W ds bs rs) (hb : Below W.heap.size W W') (hg : W.heap.size ≤ g) (hk : Blk W' g t cs) : DM w0 W' ds ((g, t, cs) :: bs) rs := by
  obtain ⟨O, U, h0, h1, h2, h3, h4, h5, h6⟩ := h
  have hs := h3.size
  have hs2 := hb.size
  refine ⟨O, U, h0, fun d hd => ⟨(h1 d hd).1.below hb, fun i hi => by have := (h1 d hd).2 i hi; omega⟩, h2, h3.trans (hb.mono h3.size), ⟨?_, fun b hb' => ?_⟩, fun i hi => ⟨by have := (h5 i hi).1; omega, (h5 i hi).2.1, fun b hb' => ?_⟩, fun r hr => (h6 r hr).below hb⟩
  · rw [List.map_cons, List.nodup_cons]
    refine ⟨fun hm => ?_, h4.1⟩
    obtain ⟨b, hbm, e⟩ := List.mem_map.1 hm
    have := (h4.2 b hbm).1.lt
    simp only at e
    omega
  · rcases List.mem_cons.1 hb' with rfl | hb'
    · exact ⟨hk, by show _ ≤ g; omega, fun d hd hi => by have := ((h1 d hd).2 _ hi).2; simp only at this; omega⟩
    · exact ⟨(h4.2 b hb').1.below hb (h4.2 b hb').1.lt, (h4.2 b hb').2⟩
  · have := (h5 i hi).1
    rcases List.mem_cons.1 hb' with rfl | hb'
    · intro e; simp only at e; omega
    · exact (h5 i hi).2.2 b hb'
/-- .. with a reading more, out of new blocks -/
theorem DM.read (h : DM w0 W ds bs rs) (hb : Below W.heap.size W W') (hr : ReadsIn sz (fun i => W.heap.size ≤ i) W' v xs) : DM w0 W' ds bs ((sz, v, xs) :: rs) := by
  obtain ⟨O, U, h0, h1, h2, h3, h4, h5, h6⟩ := h
  have hs := h3.size
  have hs2 := hb.size
  refine ⟨O, fun i => U i ∨ (W.heap.size ≤ i ∧ i < W'.heap.size), h0, fun d hd => ⟨(h1 d hd).1.below hb, fun i hi => by have := (h1 d hd).2 i hi; omega⟩, h2, h3.trans (hb.mono h3.size), ⟨h4.1, fun b hb' => ⟨(h4.2 b hb').1.below hb (h4.2 b hb').1.lt, (h4.2 b hb').2⟩⟩, fun i hi => ?_, fun r hr' => ?_⟩
  · rcases hi with hi | hi
    · exact ⟨by have := (h5 i hi).1; omega, (h5 i hi).2⟩
    · exact ⟨hi.2, fun d hd ho => by have := ((h1 d hd).2 i ho).2; omega, fun b hb' e => by have := (h4.2 b hb').1.lt; omega⟩
  · rcases List.mem_cons.1 hr' with rfl | hr'
    · exact hr.imp (fun i hi hi2 => .inr ⟨hi, hi2⟩)
    · exact ((h6 r hr').below hb).imp (fun i hi _ => .inl hi)
/-- a reading out of the blocks ahead of all -/
theorem DM.arg0 (h : DM w0 W ds bs rs) (hr : ReadsN sz w0 w0.heap.size v xs) : DM w0 W ds bs ((sz, v, xs) :: rs) := by
  obtain ⟨O, U, h0, h1, h2, h3, h4, h5, h6⟩ := h
  have hs := h3.size
  refine ⟨O, fun i => U i ∨ i < w0.heap.size, h0, h1, h2, h3, h4, fun i hi => ?_, fun r hr' => ?_⟩
  · rcases hi with hi | hi
    · exact h5 i hi
    · exact ⟨by omega, fun d hd ho => by have := ((h1 d hd).2 i ho).1; omega, fun b hb' e => by have := (h4.2 b hb').2.1; omega⟩
  · rcases List.mem_cons.1 hr' with rfl | hr'
    · exact (ReadsIn.of_readsN (hr.keep fun _ hp => h3.cell hp) hs).imp (fun i hi _ => .inr hi)
    · exact (h6 r hr').imp (fun i hi _ => .inl hi)
/-- a known block, from now on only read -/
theorem DM.freeze (h : DM w0 W ds ((g, t, cs) :: bs) rs) {n : Nat} (hn : cs.length = n * sz) (hm : n ≤ maxLen) : DM w0 W ds bs ((sz, .slice (some ⟨g, 0, none⟩) n n, cs) :: rs) := by
  obtain ⟨O, U, h0, h1, h2, h3, h4, h5, h6⟩ := h
  have hk := h4.2 _ (.head _)
  have hnd := List.nodup_cons.1 (by simpa using h4.1 : (g :: bs.map (·.1)).Nodup)
  refine ⟨O, fun i => U i ∨ i = g, h0, h1, h2, h3, ⟨hnd.2, fun b hb => h4.2 b (.tail _ hb)⟩, fun i hi => ?_, fun r hr' => ?_⟩
  · rcases hi with hi | rfl
    · exact ⟨(h5 i hi).1, (h5 i hi).2.1, fun b hb => (h5 i hi).2.2 b (.tail _ hb)⟩
    · exact ⟨hk.1.lt, hk.2.2, fun b hb e => hnd.1 (List.mem_map.2 ⟨b, hb, e⟩)⟩
  · rcases List.mem_cons.1 hr' with rfl | hr'
    · exact (ReadsIn.of_blk hk.1 hn hm).imp (fun i hi _ => .inr hi)
    · exact (h6 r hr').imp (fun i hi _ => .inl hi)
/-- a part of a reading -/
theorem DM.part (h : DM w0 W ds bs rs) {v' : Value} {xs' : List Value} {sz' : Nat} (hr : (sz, v, xs) ∈ rs) (hp : ∀ (S : Nat → Prop) (w : World), ReadsIn sz S w v xs → ReadsIn sz' S w v' xs') : DM w0 W ds bs ((sz', v', xs') :: rs) := by
  obtain ⟨O, U, h0, h1, h2, h3, h4, h5, h6⟩ := h
  refine ⟨O, U, h0, h1, h2, h3, h4, h5, fun r hr' => ?_⟩
  rcases List.mem_cons.1 hr' with rfl | hr'
  · exact hp U W (h6 _ hr)
  · exact h6 r hr'
/-- the first known block turned, and new blocks -/
theorem DM.turn (h : DM w0 W ds ((g, t, cs) :: bs) rs) (ho : Off (fun i => i = g) W W') (hk : Blk W' g t cs') : DM w0 W' ds ((g, t, cs') :: bs) rs := by
  obtain ⟨O, U, h0, h1, h2, h3, h4, h5, h6⟩ := h
  have hs := h3.size
  have hs2 := ho.size
  have hg := h4.2 _ (.head _)
  have hnd := List.nodup_cons.1 (by simpa using h4.1 : (g :: bs.map (·.1)).Nodup)
  refine ⟨O, U, h0, fun d hd => ⟨(h1 d hd).1.off ho (fun i hi _ e => by subst e; exact hg.2.2 d hd hi), fun i hi => by have := (h1 d hd).2 i hi; omega⟩, h2, h3.trans (ho.below hs (fun i hi => by subst hi; exact hg.2.1)), ⟨h4.1, fun b hb => ?_⟩, fun i hi => ⟨by have := (h5 i hi).1; omega, (h5 i hi).2.1, fun b hb => ?_⟩, fun r hr => (h6 r hr).off ho (fun i hi _ e => by subst e; exact (h5 _ hi).2.2 _ (.head _) rfl)⟩
  · rcases List.mem_cons.1 hb with rfl | hb
    · exact ⟨hk, hg.2⟩
    · exact ⟨(h4.2 b (.tail _ hb)).1.off ho (fun e => hnd.1 (List.mem_map.2 ⟨b, hb, e⟩)), (h4.2 b (.tail _ hb)).2⟩
  · rcases List.mem_cons.1 hb with rfl | hb
    · exact (h5 i hi).2.2 (g, t, cs) (.head _)
    · exact (h5 i hi).2.2 b (.tail _ hb)
/-- a step that turns known blocks alone, and makes new ones: known blocks and readings out of it -/
theorem DM.step (h : DM w0 W ds bs rs) {T : Nat → Prop} (ho : Off T W W') (hT : ∀ i, T i → W.heap.size ≤ i ∨ ∃ b ∈ bs, b.1 = i) (hn : (bs'.map (·.1)).Nodup)
    (hb : ∀ b ∈ bs', Blk W' b.1 b.2.1 b.2.2 ∧ (W.heap.size ≤ b.1 ∨ ∃ b' ∈ bs, b'.1 = b.1)) (hr : ∀ r ∈ rs', r ∈ rs ∨ ReadsIn r.1 (fun i => W.heap.size ≤ i ∧ ∀ b ∈ bs', b.1 ≠ i) W' r.2.1 r.2.2) : DM w0 W' ds bs' rs' := by
  obtain ⟨O, U, h0, h1, h2, h3, h4, h5, h6⟩ := h
  have hs := h3.size
  have hs2 := ho.size
  have hTO : ∀ d ∈ ds, ∀ i, O d.1 i → ¬ T i := fun d hd i hi ht => by
    have := (h1 d hd).2 i hi
    rcases hT i ht with h7 | ⟨b, hb', rfl⟩
    · omega
    · exact (h4.2 b hb').2.2 d hd hi
  have hTU : ∀ i, U i → ¬ T i := fun i hi ht => by
    have := (h5 i hi).1
    rcases hT i ht with h7 | ⟨b, hb', rfl⟩
    · omega
    · exact (h5 _ hi).2.2 b hb' rfl
  refine ⟨O, fun i => U i ∨ (W.heap.size ≤ i ∧ i < W'.heap.size ∧ ∀ b ∈ bs', b.1 ≠ i), h0, fun d hd => ⟨(h1 d hd).1.off ho (fun i hi _ => hTO d hd i hi), fun i hi => by have := (h1 d hd).2 i hi; omega⟩, h2,
    h3.trans (ho.below hs (fun i hi => ?_)), ⟨hn, fun b hb' => ⟨(hb b hb').1, ?_, fun d hd hi => ?_⟩⟩, fun i hi => ?_, fun r hr' => ?_⟩
  · rcases hT i hi with h7 | ⟨b, hb', rfl⟩
    · omega
    · exact (h4.2 b hb').2.1
  · rcases (hb b hb').2 with h7 | ⟨b', hb2, e⟩
    · omega
    · rw [← e]; exact (h4.2 b' hb2).2.1
  · rcases (hb b hb').2 with h7 | ⟨b', hb2, e⟩
    · have := ((h1 d hd).2 _ hi).2; omega
    · rw [← e] at hi; exact (h4.2 b' hb2).2.2 d hd hi
  · rcases hi with hi | hi
    · refine ⟨by have := (h5 i hi).1; omega, (h5 i hi).2.1, fun b hb' e => ?_⟩
      rcases (hb b hb').2 with h7 | ⟨b', hb2, e2⟩
      · have := (h5 i hi).1; omega
      · exact (h5 i hi).2.2 b' hb2 (e2.trans e)
    · exact ⟨hi.2.1, fun d hd ho => by have := ((h1 d hd).2 i ho).2; omega, hi.2.2⟩
  · rcases hr r hr' with hr2 | hr2
    · exact ((h6 r hr2).off ho (fun i hi _ => hTU i hi)).imp (fun i hi _ => .inl hi)
    · exact hr2.imp (fun i hi hi2 => .inr ⟨hi.1, hi2, hi.2⟩)
/-- the first known block turned, new blocks and readings out of them -/
theorem DM.turnRs (h : DM w0 W ds ((g, t, cs) :: bs) rs) (ho : Off (fun i => i = g) W W') (hk : Blk W' g t cs') (hr : ∀ r ∈ rs', r ∈ rs ∨ ReadsIn r.1 (fun i => W.heap.size ≤ i) W' r.2.1 r.2.2) : DM w0 W' ds ((g, t, cs') :: bs) rs' := by
  have hbs : ∀ b ∈ (g, t, cs) :: bs, Blk W b.1 b.2.1 b.2.2 := fun b hb => h.blk hb
  have hnd : (((g, t, cs) :: bs).map (·.1)).Nodup := by
    obtain ⟨O, U, h0, h1, h2, h3, h4, h5, h6⟩ := h
    exact h4.1
  have hnd2 := List.nodup_cons.1 (by simpa using hnd : (g :: bs.map (·.1)).Nodup)
  refine h.step ho (fun i hi => .inr ⟨_, .head _, hi.symm⟩) (by simpa using hnd) (fun b hb => ?_) (fun r hr' => ?_)
  · rcases List.mem_cons.1 hb with rfl | hb
    · exact ⟨hk, .inr ⟨_, .head _, rfl⟩⟩
    · exact ⟨(hbs b (.tail _ hb)).off ho (fun e => hnd2.1 (List.mem_map.2 ⟨b, hb, e⟩)), .inr ⟨b, .tail _ hb, rfl⟩⟩
  · rcases hr r hr' with h7 | h7
    · exact .inl h7
    · refine .inr (h7.imp (fun i hi hi2 => ⟨hi, fun b hb e => ?_⟩))
      rcases List.mem_cons.1 hb with rfl | hb
      · have := (hbs _ (.head _)).lt; simp only at e this; omega
      · have := (hbs b (.tail _ hb)).lt; omega
/-- .. with a disk more -/
theorem DM.disk (h : DM w0 W ds bs rs) (hb : Below W.heap.size W W') (hd : DiskIs W.heap.size (fun i => W.heap.size ≤ i ∧ i < W'.heap.size) W' p s) : DM w0 W' ((p, s) :: ds) bs rs := by
  obtain ⟨O, U, h0, h1, h2, h3, h4, h5, h6⟩ := h
  have hs := h3.size
  have hs2 := hb.size
  obtain ⟨nv, sv, lv, hdd, hO⟩ := hd
  have hpW := (hO p (.inl rfl)).1
  have hne : ∀ d ∈ ds, d.1 ≠ p := fun d hdm e => by
    obtain ⟨nv', sv', lv', hd', hO'⟩ := (h1 d hdm).1
    have := ((h1 d hdm).2 d.1 (hO' d.1 (.inl rfl))).2
    omega
  refine ⟨fun q i => if q = p then W.heap.size ≤ i ∧ i < W'.heap.size else O q i, U, ?_, fun d hdm => ?_, fun d hdm e hem hn i hi => ?_, h3.trans (hb.mono hs), ⟨h4.1, fun b hb' => ?_⟩, fun i hi => ⟨by have := (h5 i hi).1; omega, fun d hdm => ?_, (h5 i hi).2.2⟩, fun r hr => (h6 r hr).below hb⟩
  · rw [List.map_cons, List.nodup_cons]
    refine ⟨fun hm => ?_, h0⟩
    obtain ⟨d, hdm, e⟩ := List.mem_map.1 hm
    exact hne d hdm e
  · rcases List.mem_cons.1 hdm with rfl | hdm
    · simp only [if_true]
      refine ⟨DiskIs.low ⟨nv, sv, lv, hdd, fun i hi => hO i hi⟩ hs, fun i hi => by omega⟩
    · simp only [if_neg (hne d hdm)]
      exact ⟨(h1 d hdm).1.below hb, fun i hi => by have := (h1 d hdm).2 i hi; omega⟩
  · rcases List.mem_cons.1 hdm with rfl | hdm
    · rcases List.mem_cons.1 hem with rfl | hem
      · exact absurd rfl hn
      · simp only [if_true] at hi
        simp only [if_neg (hne e hem)]
        intro hi2
        have := ((h1 e hem).2 i hi2).2
        omega
    · simp only [if_neg (hne d hdm)] at hi
      rcases List.mem_cons.1 hem with rfl | hem
      · simp only [if_true]
        intro hi2
        have := ((h1 d hdm).2 i hi).2
        omega
      · simp only [if_neg (hne e hem)]
        exact h2 d hdm e hem hn i hi
  · refine ⟨(h4.2 b hb').1.below hb (h4.2 b hb').1.lt, (h4.2 b hb').2.1, fun d hdm hi => ?_⟩
    rcases List.mem_cons.1 hdm with rfl | hdm
    · simp only [if_true] at hi
      have := (h4.2 b hb').1.lt
      omega
    · simp only [if_neg (hne d hdm)] at hi
      exact (h4.2 b hb').2.2 d hdm hi
  · rcases List.mem_cons.1 hdm with rfl | hdm
    · simp only [if_true]
      have := (h5 i hi).1
      omega
    · simp only [if_neg (hne d hdm)]
      exact (h5 i hi).2.1 d hdm
/-- what an operation on the first disk asks -/
theorem DM.open (h : DM w0 W ((p, s) :: ds) bs rs) : ∃ O U : Nat → Prop, DiskIs w0.heap.size O W p s ∧ (∀ i, O i → w0.heap.size ≤ i ∧ i < W.heap.size) ∧ (∀ b ∈ bs, ¬ O b.1) ∧ (∀ i, U i → ¬ O i) ∧ (∀ r ∈ rs, ReadsIn r.1 U W r.2.1 r.2.2) ∧ ∀ s' W', Did w0.heap.size O W p s' W' → DM w0 W' ((p, s') :: ds) bs rs := by
  obtain ⟨O, U, h0, h1, h2, h3, h4, h5, h6⟩ := h
  have h0' := List.nodup_cons.1 (by simpa using h0 : (p :: ds.map (·.1)).Nodup)
  have hne : ∀ d ∈ ds, d.1 ≠ p := fun d hd e => h0'.1 (List.mem_map.2 ⟨d, hd, e⟩)
  refine ⟨O p, U, (h1 _ (.head _)).1, (h1 _ (.head _)).2, fun b hb => (h4.2 b hb).2.2 _ (.head _), fun i hi => (h5 i hi).2.1 _ (.head _), h6, fun s' W' hdid => ?_⟩
  have hs := hdid.off.size
  have hw := h3.size
  refine ⟨fun q i => if q = p then More (O p) W.heap.size W'.heap.size i else O q i, U, by simpa using h0, fun d hd => ?_, fun d hd e he hn i hi => ?_, h3.trans (hdid.off.below hw (fun i hi => ((h1 _ (.head _)).2 i hi).1)), ⟨h4.1, fun b hb => ?_⟩, fun i hi => ⟨by have := (h5 i hi).1; omega, fun d hd ho => ?_, (h5 i hi).2.2⟩, fun r hr => (h6 r hr).off hdid.off (fun i hi _ ho => (h5 i hi).2.1 _ (.head _) ho)⟩
  · rcases List.mem_cons.1 hd with rfl | hd
    · simp only [if_true]
      refine ⟨hdid.is, fun i hi => ?_⟩
      rcases hi with hi | hi
      · have := (h1 _ (.head _)).2 i hi; omega
      · omega
    · simp only [if_neg (hne d hd)]
      refine ⟨(h1 d (.tail _ hd)).1.off hdid.off (fun i hi _ hp => h2 d (.tail _ hd) _ (.head _) (hne d hd) i hi hp), fun i hi => by have := (h1 d (.tail _ hd)).2 i hi; omega⟩
  · rcases List.mem_cons.1 hd with rfl | hd
    · rcases List.mem_cons.1 he with rfl | he
      · exact absurd rfl hn
      · simp only [if_true] at hi
        simp only [if_neg (hne e he)]
        rcases hi with hi | hi
        · exact h2 _ (.head _) e (.tail _ he) (fun e' => hne e he e'.symm) i hi
        · intro hi2
          have := ((h1 e (.tail _ he)).2 i hi2).2
          omega
    · simp only [if_neg (hne d hd)] at hi
      rcases List.mem_cons.1 he with rfl | he
      · simp only [if_true]
        rintro (hi2 | hi2)
        · exact h2 d (.tail _ hd) _ (.head _) (hne d hd) i hi hi2
        · have := ((h1 d (.tail _ hd)).2 i hi).2
          omega
      · simp only [if_neg (hne e he)]
        exact h2 d (.tail _ hd) e (.tail _ he) hn i hi
  · have hbp := (h4.2 b hb).2.2 _ (.head _)
    refine ⟨(h4.2 b hb).1.off hdid.off hbp, (h4.2 b hb).2.1, fun d hd hi => ?_⟩
    rcases List.mem_cons.1 hd with rfl | hd
    · simp only [if_true] at hi
      rcases hi with hi | hi
      · exact hbp hi
      · have := (h4.2 b hb).1.lt
        omega
    · simp only [if_neg (hne d hd)] at hi
      exact (h4.2 b hb).2.2 d (.tail _ hd) hi
  · rcases List.mem_cons.1 hd with rfl | hd
    · simp only [if_true] at ho
      rcases ho with ho | ho
      · exact (h5 i hi).2.1 _ (.head _) ho
      · have := (h5 i hi).1; omega
    · simp only [if_neg (hne d hd)] at ho
      exact (h5 i hi).2.1 d (.tail _ hd) ho
/-- where an argument's bytes may lie -/
def ArgM (w0 : World) (bs : List (Nat × TypeId × List Value)) (rs : List (Nat × Value × List Value)) (v : Value) (x : List UInt8) : Prop :=
  Reads w0 w0.heap.size v (bytesV x) ∨ (∃ g t n, v = .slice (some ⟨g, 0, none⟩) n n ∧ x.length = n ∧ n ≤ 1000000 ∧ (g, t, bytesV x) ∈ bs) ∨ (1, v, bytesV x) ∈ rs
theorem DM.arg (h : DM w0 W ((p, s) :: ds) bs rs) {v : Value} {x : List UInt8} (ha : ArgM w0 bs rs v x) : ∃ S O : Nat → Prop, ReadsIn 1 S W v (bytesV x) ∧ (∀ g, S g → ¬ O g) ∧ DiskIs w0.heap.size O W p s ∧ ∀ s' W', Did w0.heap.size O W p s' W' → DM w0 W' ((p, s') :: ds) bs rs := by
  obtain ⟨O, U, h1, h2, h3, h4, h5, h6⟩ := h.open
  rcases ha with ha | ⟨g, t, n, rfl, hn, hn2, hm⟩ | ha
  · exact ⟨fun i => i < w0.heap.size, O, ReadsIn.of_reads (ha.below h.bel) h.bel.size, fun i hi ho => by have := (h2 i ho).1; omega, h1, h6⟩
  · exact ⟨fun i => i = g, O, ReadsIn.of_blk (h.blk hm) (by rw [length_bytesV, hn]; simp) (by unfold maxLen; omega), fun i hi ho => by rw [hi] at ho; exact h3 _ hm ho, h1, h6⟩
  · exact ⟨U, O, h5 _ ha, h4, h1, h6⟩
theorem DM.argReads (h : DM w0 W ds bs rs) {v : Value} {x : List UInt8} (ha : ArgM w0 bs rs v x) : Reads W W.heap.size v (bytesV x) := by
  rcases ha with ha | ⟨g, t, n, rfl, hn, hn2, hm⟩ | ha
  · exact (ha.below h.bel).more h.bel.size
  · exact (h.blk hm).reads (by rw [length_bytesV, hn]) (by unfold maxLen; omega)
  · exact h.reads1 ha
theorem dm_new (h : DM w0 W ds bs rs) (n : Int) (m : Nat) (hm : max 0 (min n 4096) = (m : Int)) : Calls Try.prog 10 #[.int .i64 n] W fun en W' => ∃ q, en = .returned (.pointer (some ⟨q, 0, none⟩)) ∧ DM w0 W' ((q, Dk.new m) :: ds) bs rs :=
  (snew_any W n m hm).mono fun en W' ⟨q, he, hd, hb⟩ => ⟨q, he, h.disk hb hd⟩
theorem dm_write (h : DM w0 W ((p, s) :: ds) bs rs) (ho : s.ops < 1000000000) (i : Int) (v : Value) (x : List UInt8) (ha : ArgM w0 bs rs v x) :
    Calls Try.prog 18 #[.pointer (some ⟨p, 0, none⟩), .int .i64 i, v] W fun en W' => en = .returned (.int .i64 (s.write i x).2) ∧ DM w0 W' ((p, (s.write i x).1) :: ds) bs rs := by
  obtain ⟨S, O, h1, h2, h3, h4⟩ := h.arg ha
  exact (swrite_any h3 h.bel.size ho i v x h1 (fun g hg _ => h2 g hg)).mono fun en W' ⟨he, hd⟩ => ⟨he, h4 _ _ hd⟩
theorem dm_flush (h : DM w0 W ((p, s) :: ds) bs rs) (ho : s.ops < 1000000000) :
    Calls Try.prog 33 #[.pointer (some ⟨p, 0, none⟩)] W fun en W' => en = .returned (.int .i64 s.flush.2) ∧ DM w0 W' ((p, s.flush.1) :: ds) bs rs := by
  obtain ⟨O, U, h1, h2, h3, h4, h5, h6⟩ := h.open
  exact (sflush_any h1 ho).mono fun en W' ⟨he, hd⟩ => ⟨he, h6 _ _ hd⟩
theorem dm_fuse (h : DM w0 W ((p, s) :: ds) bs rs) (ho : s.ops < 4611686018427387904) (n : Int) (hn : -9223372036854775808 ≤ n ∧ n ≤ 9223372036854775807) :
    Calls Try.prog 21 #[.pointer (some ⟨p, 0, none⟩), .int .i64 n] W fun en W' => en = .returned (.tuple #[]) ∧ DM w0 W' ((p, s.fused n) :: ds) bs rs := by
  obtain ⟨O, U, h1, h2, h3, h4, h5, h6⟩ := h.open
  exact (sfuse_any h1 ho n hn).mono fun en W' ⟨he, hd⟩ => ⟨he, h6 _ _ hd⟩
theorem dm_crash (h : DM w0 W ((p, s) :: ds) bs rs) (v : Value) (x : List UInt8) (ha : ArgM w0 bs rs v x) :
    Calls Try.prog 22 #[.pointer (some ⟨p, 0, none⟩), v] W fun en W' => en = .returned (.tuple #[]) ∧ DM w0 W' ((p, s.crash x) :: ds) bs rs := by
  obtain ⟨S, O, h1, h2, h3, h4⟩ := h.arg ha
  exact (scrash_any h3 v x h1 h2).mono fun en W' ⟨he, hd⟩ => ⟨he, h4 _ _ hd⟩
theorem dm_read (h : DM w0 W ((p, s) :: ds) bs rs) (i : Int) (x : List UInt8) (hr : s.read i = (x, 0)) :
    Calls Try.prog 17 #[.pointer (some ⟨p, 0, none⟩), .int .i64 i] W fun en W' => ∃ g, en = .returned (.tuple #[.slice (some ⟨g, 0, none⟩) 64 64, .int .i64 0]) ∧ x.length = 64 ∧ DM w0 W' ((p, s) :: ds) ((g, 74, bytesV x) :: bs) rs := by
  obtain ⟨O, U, h1, h2, h3, h4, h5, h6⟩ := h.open
  refine (sread_any h1 i _ hr).mono fun en W' ⟨hb, hc⟩ => ?_
  rcases hc with ⟨hc, _⟩ | ⟨_, hl, g, he, hg, hk⟩
  · exact absurd rfl hc
  · exact ⟨g, he, hl, h.more hb hg hk⟩
theorem dm_readNo (h : DM w0 W ((p, s) :: ds) bs rs) (i e : Int) (he : e ≠ 0) (hr : s.read i = ([], e)) :
    Calls Try.prog 17 #[.pointer (some ⟨p, 0, none⟩), .int .i64 i] W fun en W' => en = .returned (.tuple #[.slice none 0 0, .int .i64 e]) ∧ DM w0 W' ((p, s) :: ds) bs rs := by
  obtain ⟨O, U, h1, h2, h3, h4, h5, h6⟩ := h.open
  refine (sread_any h1 i _ hr).mono fun en W' ⟨hb, hc⟩ => ?_
  rcases hc with ⟨_, _, hc⟩ | ⟨hc, _⟩
  · exact ⟨hc, h.below hb⟩
  · exact absurd hc he
theorem dm_len (h : DM w0 W ((p, s) :: ds) bs rs) : Calls Try.prog 31 #[.pointer (some ⟨p, 0, none⟩)] W fun en w' => en = .returned (.int .i64 (s.now.length : Int)) ∧ W = w' := by
  obtain ⟨O, U, h1, _⟩ := h.open
  exact slen_any h1
theorem dm_ops (h : DM w0 W ((p, s) :: ds) bs rs) : Calls Try.prog 48 #[.pointer (some ⟨p, 0, none⟩)] W fun en w' => en = .returned (.int .i64 s.ops) ∧ W = w' := by
  obtain ⟨O, U, h1, _⟩ := h.open
  exact sops_any h1
end
end Go.Proofs.Ytjddplddpdcmdaa
