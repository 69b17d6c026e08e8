/- Disks and blocks that a law has made, told apart: contracts over all of them. -/
import Derived.Test.YtcgmgogkfhlgpaaSecLaw
namespace Go.Proofs.Ytcgmgogkfhlgpaa
open Go.RowKit
set_option linter.unusedVariables false
set_option linter.unusedSimpArgs false

/-- since w0: disks, each of blocks of its own; blocks known whole, which are no disk's -/
def DS (w0 W : World) (ds : List (Nat × Dk)) (bs : List (Nat × TypeId × List Value)) : Prop :=
  ∃ O : Nat → Nat → Prop, (ds.map (·.1)).Nodup ∧ (∀ d ∈ ds, DiskIs w0.heap.size (O d.1) W d.1 d.2 ∧ ∀ i, O d.1 i → w0.heap.size ≤ i ∧ i < W.heap.size) ∧ (∀ d ∈ ds, ∀ e ∈ ds, d.1 ≠ e.1 → ∀ i, O d.1 i → ¬ O e.1 i) ∧
    Below w0.heap.size w0 W ∧ ∀ b ∈ bs, Blk W b.1 b.2.1 b.2.2 ∧ w0.heap.size ≤ b.1 ∧ ∀ d ∈ ds, ¬ O d.1 b.1
section
variable {w0 W W' : World} {ds ds' : List (Nat × Dk)} {bs bs' : List (Nat × TypeId × List Value)} {p g : Nat} {s s' : Dk} {t : TypeId} {cs : List Value}
theorem DS.start (w : World) : DS w w [] [] := ⟨fun _ _ => False, by simp, (fun _ h => by cases h), (fun _ h => by cases h), Below.refl _ _, (fun _ h => by cases h)⟩
theorem DS.bel (h : DS w0 W ds bs) : Below w0.heap.size w0 W := by
  obtain ⟨O, h0, h1, h2, h3, h4⟩ := h
  exact h3
theorem DS.blk (h : DS w0 W ds bs) {b : Nat × TypeId × List Value} (hb : b ∈ bs) : Blk W b.1 b.2.1 b.2.2 := by
  obtain ⟨O, h0, h1, h2, h3, h4⟩ := h
  exact (h4 b hb).1
theorem DS.perm (h : DS w0 W ds bs) (hp : ds.Perm ds') : DS w0 W ds' bs := by
  obtain ⟨O, h0, h1, h2, h3, h4⟩ := h
  exact ⟨O, (hp.map _).nodup h0, fun d hd => h1 d (hp.mem_iff.2 hd), fun d hd e he => h2 d (hp.mem_iff.2 hd) e (hp.mem_iff.2 he), h3, fun b hb => ⟨(h4 b hb).1, (h4 b hb).2.1, fun d hd => (h4 b hb).2.2 d (hp.mem_iff.2 hd)⟩⟩
theorem DS.drop (h : DS w0 W ((p, s) :: ds) bs) : DS w0 W ds bs := by
  obtain ⟨O, h0, h1, h2, h3, h4⟩ := h
  exact ⟨O, (List.nodup_cons.1 h0).2, fun d hd => h1 d (.tail _ hd), fun d hd e he => h2 d (.tail _ hd) e (.tail _ he), h3, fun b hb => ⟨(h4 b hb).1, (h4 b hb).2.1, fun d hd => (h4 b hb).2.2 d (.tail _ hd)⟩⟩
theorem DS.sub (h : DS w0 W ds bs) (hb : ∀ b ∈ bs', b ∈ bs) : DS w0 W ds bs' := by
  obtain ⟨O, h0, h1, h2, h3, h4⟩ := h
  exact ⟨O, h0, h1, h2, h3, fun b hb' => h4 b (hb b hb')⟩
theorem DS.ok (h : DS w0 W ((p, s) :: ds) bs) : s.Ok := by
  obtain ⟨O, h0, h1, _⟩ := h
  exact (h1 _ (.head _)).1.ok
/-- what goes on behind all of it -/
theorem DS.below (h : DS w0 W ds bs) (hb : Below W.heap.size W W') : DS w0 W' ds bs := by
  obtain ⟨O, h0, h1, h2, h3, h4⟩ := h
  have hs := hb.size
  exact ⟨O, h0, fun d hd => ⟨(h1 d hd).1.below hb, fun i hi => by have := (h1 d hd).2 i hi; omega⟩, h2, h3.trans (hb.mono h3.size), fun b hb' => ⟨(h4 b hb').1.below hb (h4 b hb').1.lt, (h4 b hb').2⟩⟩
theorem DS.drewN (h : DS w0 W ds bs) (n : Nat) : DS w0 (W.drewN n) ds bs := h.below ⟨rfl, rfl, rfl, Nat.le_refl _, fun _ _ => rfl⟩
theorem DS.drew (h : DS w0 W ds bs) : DS w0 W.drew ds bs := h.below ⟨rfl, rfl, rfl, Nat.le_refl _, fun _ _ => rfl⟩
/-- .. with a block more -/
theorem DS.more (h : DS w0 W ds bs) (hb : Below W.heap.size W W') (hg : W.heap.size ≤ g) (hk : Blk W' g t cs) : DS w0 W' ds ((g, t, cs) :: bs) := by
  obtain ⟨O, h0, h1, h2, h3, h4⟩ := h.below hb
  obtain ⟨O', h0', h1', h2', h3', h4'⟩ := h
  have hs := h3'.size
  have hs2 := hb.size
  refine ⟨O', h0', fun d hd => ⟨(h1' d hd).1.below hb, fun i hi => by have := (h1' d hd).2 i hi; omega⟩, h2', h3, fun b hb' => ?_⟩
  rcases List.mem_cons.1 hb' with rfl | hb'
  · exact ⟨hk, by show _ ≤ g; omega, fun d hd hi => by have := ((h1' d hd).2 _ hi).2; simp only at this; omega⟩
  · exact ⟨(h4' b hb').1.below hb (h4' b hb').1.lt, (h4' b hb').2⟩
/-- .. with a disk more -/
theorem DS.disk (h : DS w0 W ds bs) (hb : Below W.heap.size W W') (hd : DiskIs W.heap.size (fun i => W.heap.size ≤ i ∧ i < W'.heap.size) W' p s) : DS w0 W' ((p, s) :: ds) bs := by
  obtain ⟨O, h0, h1, h2, h3, h4⟩ := h
  have hs := h3.size
  have hs2 := hb.size
  obtain ⟨nv, sv, lv, hdd, hO⟩ := hd
  have hpW := (hO p (.inl rfl)).1
  have hne : ∀ d ∈ ds, d.1 ≠ p := fun d hdm e => by
    obtain ⟨nv', sv', lv', hd', hO'⟩ := (h1 d hdm).1
    have := ((h1 d hdm).2 d.1 (hO' d.1 (.inl rfl))).2
    omega
  refine ⟨fun q i => if q = p then W.heap.size ≤ i ∧ i < W'.heap.size else O q i, ?_, fun d hdm => ?_, fun d hdm e hem hn i hi => ?_, h3.trans (hb.mono hs), fun b hb' => ?_⟩
  · rw [List.map_cons, List.nodup_cons]
    refine ⟨fun hm => ?_, h0⟩
    obtain ⟨d, hdm, e⟩ := List.mem_map.1 hm
    exact hne d hdm e
  · rcases List.mem_cons.1 hdm with rfl | hdm
    · simp only [if_true]
      refine ⟨DiskIs.low ⟨nv, sv, lv, hdd, fun i hi => hO i hi⟩ hs, fun i hi => by omega⟩
    · simp only [if_neg (hne d hdm)]
      exact ⟨(h1 d hdm).1.below hb, fun i hi => by have := (h1 d hdm).2 i hi; omega⟩
  · rcases List.mem_cons.1 hdm with rfl | hdm
    · rcases List.mem_cons.1 hem with rfl | hem
      · exact absurd rfl hn
      · simp only [if_true] at hi
        simp only [if_neg (hne e hem)]
        intro hi2
        have := ((h1 e hem).2 i hi2).2
        omega
    · simp only [if_neg (hne d hdm)] at hi
      rcases List.mem_cons.1 hem with rfl | hem
      · simp only [if_true]
        intro hi2
        have := ((h1 d hdm).2 i hi).2
        omega
      · simp only [if_neg (hne e hem)]
        exact h2 d hdm e hem hn i hi
  · refine ⟨(h4 b hb').1.below hb (h4 b hb').1.lt, (h4 b hb').2.1, fun d hdm hi => ?_⟩
    rcases List.mem_cons.1 hdm with rfl | hdm
    · simp only [if_true] at hi
      have := (h4 b hb').1.lt
      omega
    · simp only [if_neg (hne d hdm)] at hi
      exact (h4 b hb').2.2 d hdm hi
/-- what an operation on the first disk asks -/
theorem DS.open (h : DS w0 W ((p, s) :: ds) bs) : ∃ O : Nat → Prop, DiskIs w0.heap.size O W p s ∧ (∀ i, O i → w0.heap.size ≤ i ∧ i < W.heap.size) ∧ (∀ b ∈ bs, ¬ O b.1) ∧ ∀ s' W', Did w0.heap.size O W p s' W' → DS w0 W' ((p, s') :: ds) bs := by
  obtain ⟨O, h0, h1, h2, h3, h4⟩ := h
  have h0' := List.nodup_cons.1 (by simpa using h0 : (p :: ds.map (·.1)).Nodup)
  have hne : ∀ d ∈ ds, d.1 ≠ p := fun d hd e => h0'.1 (List.mem_map.2 ⟨d, hd, e⟩)
  refine ⟨O p, (h1 _ (.head _)).1, (h1 _ (.head _)).2, fun b hb => (h4 b hb).2.2 _ (.head _), fun s' W' hdid => ?_⟩
  have hs := hdid.off.size
  have hw := h3.size
  refine ⟨fun q i => if q = p then More (O p) W.heap.size W'.heap.size i else O q i, by simpa using h0, fun d hd => ?_, fun d hd e he hn i hi => ?_, h3.trans (hdid.off.below hw (fun i hi => ((h1 _ (.head _)).2 i hi).1)), fun b hb => ?_⟩
  · rcases List.mem_cons.1 hd with rfl | hd
    · simp only [if_true]
      refine ⟨hdid.is, fun i hi => ?_⟩
      rcases hi with hi | hi
      · have := (h1 _ (.head _)).2 i hi; omega
      · omega
    · simp only [if_neg (hne d hd)]
      refine ⟨(h1 d (.tail _ hd)).1.off hdid.off (fun i hi _ hp => h2 d (.tail _ hd) _ (.head _) (hne d hd) i hi hp), fun i hi => by have := (h1 d (.tail _ hd)).2 i hi; omega⟩
  · rcases List.mem_cons.1 hd with rfl | hd
    · rcases List.mem_cons.1 he with rfl | he
      · exact absurd rfl hn
      · simp only [if_true] at hi
        simp only [if_neg (hne e he)]
        rcases hi with hi | hi
        · exact h2 _ (.head _) e (.tail _ he) (fun e' => hne e he e'.symm) i hi
        · intro hi2
          have := ((h1 e (.tail _ he)).2 i hi2).2
          omega
    · simp only [if_neg (hne d hd)] at hi
      rcases List.mem_cons.1 he with rfl | he
      · simp only [if_true]
        rintro (hi2 | hi2)
        · exact h2 d (.tail _ hd) _ (.head _) (hne d hd) i hi hi2
        · have := ((h1 d (.tail _ hd)).2 i hi).2
          omega
      · simp only [if_neg (hne e he)]
        exact h2 d (.tail _ hd) e (.tail _ he) hn i hi
  · have hbp := (h4 b hb).2.2 _ (.head _)
    refine ⟨(h4 b hb).1.off hdid.off hbp, (h4 b hb).2.1, fun d hd hi => ?_⟩
    rcases List.mem_cons.1 hd with rfl | hd
    · simp only [if_true] at hi
      rcases hi with hi | hi
      · exact hbp hi
      · have := (h4 b hb).1.lt
        omega
    · simp only [if_neg (hne d hd)] at hi
      exact (h4 b hb).2.2 d (.tail _ hd) hi
/-- where an argument's bytes may lie -/
def Arg (w0 : World) (bs : List (Nat × TypeId × List Value)) (v : Value) (x : List UInt8) : Prop :=
  Reads w0 w0.heap.size v (bytesV x) ∨ ∃ g t n, v = .slice (some ⟨g, 0, none⟩) n n ∧ x.length = n ∧ n ≤ 1000000 ∧ (g, t, bytesV x) ∈ bs
theorem DS.arg (h : DS w0 W ((p, s) :: ds) bs) {v : Value} {x : List UInt8} (ha : Arg w0 bs v x) : ∃ S O : Nat → Prop, ReadsIn 1 S W v (bytesV x) ∧ (∀ g, S g → ¬ O g) ∧ DiskIs w0.heap.size O W p s ∧ ∀ s' W', Did w0.heap.size O W p s' W' → DS w0 W' ((p, s') :: ds) bs := by
  obtain ⟨O, h1, h2, h3, h4⟩ := h.open
  rcases ha with ha | ⟨g, t, n, rfl, hn, hn2, hm⟩
  · exact ⟨fun i => i < w0.heap.size, O, ReadsIn.of_reads (ha.below h.bel) h.bel.size, fun i hi ho => by have := (h2 i ho).1; omega, h1, h4⟩
  · exact ⟨fun i => i = g, O, ReadsIn.of_blk (h.blk hm) (by rw [length_bytesV, hn]; simp) (by unfold maxLen; omega), fun i hi ho => by rw [hi] at ho; exact h3 _ hm ho, h1, h4⟩
theorem DS.argReads (h : DS w0 W ds bs) {v : Value} {x : List UInt8} (ha : Arg w0 bs v x) : Reads W W.heap.size v (bytesV x) := by
  rcases ha with ha | ⟨g, t, n, rfl, hn, hn2, hm⟩
  · exact (ha.below h.bel).more h.bel.size
  · exact (h.blk hm).reads (by rw [length_bytesV, hn]) (by unfold maxLen; omega)
theorem ds_new (h : DS w0 W ds bs) (n : Int) (m : Nat) (hm : max 0 (min n 4096) = (m : Int)) : Calls Try.prog 10 #[.int .i64 n] W fun en W' => ∃ q, en = .returned (.pointer (some ⟨q, 0, none⟩)) ∧ DS w0 W' ((q, Dk.new m) :: ds) bs :=
  (snew_any W n m hm).mono fun en W' ⟨q, he, hd, hb⟩ => ⟨q, he, h.disk hb hd⟩
theorem ds_write (h : DS w0 W ((p, s) :: ds) bs) (ho : s.ops < 1000000000) (i : Int) (v : Value) (x : List UInt8) (ha : Arg w0 bs v x) :
    Calls Try.prog 12 #[.pointer (some ⟨p, 0, none⟩), .int .i64 i, v] W fun en W' => en = .returned (.int .i64 (s.write i x).2) ∧ DS w0 W' ((p, (s.write i x).1) :: ds) bs := by
  obtain ⟨S, O, h1, h2, h3, h4⟩ := h.arg ha
  exact (swrite_any h3 h.bel.size ho i v x h1 (fun g hg _ => h2 g hg)).mono fun en W' ⟨he, hd⟩ => ⟨he, h4 _ _ hd⟩
theorem ds_flush (h : DS w0 W ((p, s) :: ds) bs) (ho : s.ops < 1000000000) :
    Calls Try.prog 13 #[.pointer (some ⟨p, 0, none⟩)] W fun en W' => en = .returned (.int .i64 s.flush.2) ∧ DS w0 W' ((p, s.flush.1) :: ds) bs := by
  obtain ⟨O, h1, h2, h3, h4⟩ := h.open
  exact (sflush_any h1 ho).mono fun en W' ⟨he, hd⟩ => ⟨he, h4 _ _ hd⟩
theorem ds_fuse (h : DS w0 W ((p, s) :: ds) bs) (ho : s.ops < 4611686018427387904) (n : Int) (hn : -9223372036854775808 ≤ n ∧ n ≤ 9223372036854775807) :
    Calls Try.prog 18 #[.pointer (some ⟨p, 0, none⟩), .int .i64 n] W fun en W' => en = .returned (.tuple #[]) ∧ DS w0 W' ((p, s.fused n) :: ds) bs := by
  obtain ⟨O, h1, h2, h3, h4⟩ := h.open
  exact (sfuse_any h1 ho n hn).mono fun en W' ⟨he, hd⟩ => ⟨he, h4 _ _ hd⟩
theorem ds_crash (h : DS w0 W ((p, s) :: ds) bs) (v : Value) (x : List UInt8) (ha : Arg w0 bs v x) :
    Calls Try.prog 14 #[.pointer (some ⟨p, 0, none⟩), v] W fun en W' => en = .returned (.tuple #[]) ∧ DS w0 W' ((p, s.crash x) :: ds) bs := by
  obtain ⟨S, O, h1, h2, h3, h4⟩ := h.arg ha
  exact (scrash_any h3 v x h1 h2).mono fun en W' ⟨he, hd⟩ => ⟨he, h4 _ _ hd⟩
theorem ds_copy (h : DS w0 W ((p, s) :: ds) bs) (ho : s.ops ≤ 1000000000) :
    Calls Try.prog 21 #[.pointer (some ⟨p, 0, none⟩)] W fun en W' => ∃ q, en = .returned (.pointer (some ⟨q, 0, none⟩)) ∧ DS w0 W' ((q, s) :: (p, s) :: ds) bs := by
  obtain ⟨O, h1, h2, h3, h4⟩ := h.open
  exact (scopy_any h1 ho).mono fun en W' ⟨q, he, hd, hb⟩ => ⟨q, he, h.disk hb hd⟩
theorem ds_read (h : DS w0 W ((p, s) :: ds) bs) (i : Int) (x : List UInt8) (hr : s.read i = (x, 0)) :
    Calls Try.prog 15 #[.pointer (some ⟨p, 0, none⟩), .int .i64 i] W fun en W' => ∃ g, en = .returned (.tuple #[.slice (some ⟨g, 0, none⟩) 64 64, .int .i64 0]) ∧ x.length = 64 ∧ DS w0 W' ((p, s) :: ds) ((g, 58, bytesV x) :: bs) := by
  obtain ⟨O, h1, h2, h3, h4⟩ := h.open
  refine (sread_any h1 i _ hr).mono fun en W' ⟨hb, hc⟩ => ?_
  rcases hc with ⟨hc, _⟩ | ⟨_, hl, g, he, hg, hk⟩
  · exact absurd rfl hc
  · exact ⟨g, he, hl, h.more hb hg hk⟩
theorem ds_readNo (h : DS w0 W ((p, s) :: ds) bs) (i e : Int) (he : e ≠ 0) (hr : s.read i = ([], e)) :
    Calls Try.prog 15 #[.pointer (some ⟨p, 0, none⟩), .int .i64 i] W fun en W' => en = .returned (.tuple #[.slice none 0 0, .int .i64 e]) ∧ DS w0 W' ((p, s) :: ds) bs := by
  obtain ⟨O, h1, h2, h3, h4⟩ := h.open
  refine (sread_any h1 i _ hr).mono fun en W' ⟨hb, hc⟩ => ?_
  rcases hc with ⟨_, _, hc⟩ | ⟨hc, _⟩
  · exact ⟨hc, h.below hb⟩
  · exact absurd hc he
theorem ds_len (h : DS w0 W ((p, s) :: ds) bs) : Calls Try.prog 26 #[.pointer (some ⟨p, 0, none⟩)] W fun en w' => en = .returned (.int .i64 (s.now.length : Int)) ∧ W = w' := by
  obtain ⟨O, h1, _⟩ := h.open
  exact slen_any h1
theorem ds_down (h : DS w0 W ((p, s) :: ds) bs) : Calls Try.prog 19 #[.pointer (some ⟨p, 0, none⟩)] W fun en w' => en = .returned (.bool s.down) ∧ W = w' := by
  obtain ⟨O, h1, _⟩ := h.open
  exact sdown_any h1
theorem ds_ops (h : DS w0 W ((p, s) :: ds) bs) : Calls Try.prog 20 #[.pointer (some ⟨p, 0, none⟩)] W fun en w' => en = .returned (.int .i64 s.ops) ∧ W = w' := by
  obtain ⟨O, h1, _⟩ := h.open
  exact sops_any h1
theorem ds_full (h : DS w0 W ds bs) (b : UInt8) (x : Int) (hx : x = (b.toNat : Int)) : Calls Try.prog 16 #[.int .u8 x] W fun en W' => ∃ g, en = .returned (.slice (some ⟨g, 0, none⟩) 64 64) ∧ DS w0 W' ds ((g, 5, bytesV (List.replicate 64 b)) :: bs) :=
  (full_any W b x hx).mono fun en W' ⟨g, he, hk, _, hg, hb⟩ => ⟨g, he, h.more hb hg hk⟩
theorem ds_sector (h : DS w0 W ds bs) (v : Value) (y : List UInt8) (ha : Arg w0 bs v y) (b : UInt8) (x : Int) (hx : x = (b.toNat : Int)) : Calls Try.prog 11 #[v, .int .u8 x] W fun en W' => ∃ g, en = .returned (.slice (some ⟨g, 0, none⟩) 64 64) ∧ DS w0 W' ds ((g, 5, bytesV (secI y b)) :: bs) :=
  (sectorL_any W _ v y (h.argReads ha) (Nat.le_refl _) b x hx).mono fun en W' ⟨g, he, hk, _, hg, hb⟩ => ⟨g, he, h.more hb hg hk⟩
end
end Go.Proofs.Ytcgmgogkfhlgpaa
