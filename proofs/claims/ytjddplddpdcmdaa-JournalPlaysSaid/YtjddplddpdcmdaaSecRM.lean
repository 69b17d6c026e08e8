/- The program's disk and the reference's side by side. -/
import Derived.Test.YtjddplddpdcmdaaSecRD5
namespace Go.Proofs.Ytjddplddpdcmdaa
open Go.RowKit
set_option linter.unusedVariables false
set_option linter.unusedSimpArgs false

section
variable {w0 w w' W W' w1 w2 : World} {ds ds' : List (Nat × Dk)} {bs bs' : List (Nat × TypeId × List Value)} {rs rs' rs0 : List (Nat × Value × List Value)} {p d g k n : Nat} {s : Dk} {r r' : Rk} {v u : Value} {t : TypeId} {cs : List Value}
theorem q_leftR {P : Program} {f : FuncId} {args : Array Value} {w : World} {n : Nat} {v : Value} (h : Calls P f args (w.drewN n) fun e w' => e = .returned v ∧ w.drewN n = w') :
    Calls P f args (w.drewN n) (Quiet w v) := h.mono fun e w' ⟨he, hw⟩ => ⟨he, n, hw.symm⟩
theorem RM.drewN (h : RM w0 W ds p r bs rs0) (n : Nat) : RM w0 (W.drewN n) ds p r bs rs0 := h.below ⟨rfl, rfl, rfl, Nat.le_refl _, fun _ _ => rfl⟩
theorem RM.drew (h : RM w0 W ds p r bs rs0) : RM w0 W.drew ds p r bs rs0 := h.below ⟨rfl, rfl, rfl, Nat.le_refl _, fun _ _ => rfl⟩
theorem RM.reads1 (h : RM w0 W ds p r bs rs0) {xs : List Value} (hr : (1, v, xs) ∈ rs0) : Reads W W.heap.size v xs := by
  obtain ⟨sv, wv, rs, h1, h2, h3⟩ := h
  exact h2.reads1 (h1 _ hr)
theorem RM.blk (h : RM w0 W ds p r bs rs0) {b : Nat × TypeId × List Value} (hb : b ∈ bs) : Blk W b.1 b.2.1 b.2.2 := by
  obtain ⟨sv, wv, rs, h1, h2, h3⟩ := h
  exact h2.blk (.tail _ hb)
theorem RM.more (h : RM w0 W ds p r bs rs0) (hb : Below W.heap.size W W') (hg : W.heap.size ≤ g) (hk : Blk W' g t cs) : RM w0 W' ds p r ((g, t, cs) :: bs) rs0 :=
  h.lift fun b rs _ h2 => (h2.more hb hg hk).permB (.swap _ _ _)
/-- what the own block holds -/
theorem RM.cells (h : RM w0 W ds p r bs rs0) : p < W.heap.size ∧ (∃ A c, W.cell? ⟨p, 0, none⟩ = some (.slice A r.sure.length c)) ∧ W.cell? ⟨p, 2, none⟩ = some (.int .i64 r.n) ∧ W.cell? ⟨p, 4, none⟩ = some (.bool r.down) := by
  obtain ⟨sv, wv, rs, h1, h2, h3⟩ := h
  obtain ⟨⟨A, c, rfl⟩, _⟩ := h3.form h2
  have hb := h2.blk (.head _)
  exact ⟨hb.lt, ⟨A, c, hb.cell 0⟩, hb.cell 2, hb.cell 4⟩
theorem rm_len (h : RM w0 W ((d, s) :: ds) p r bs rs0) (n : Nat) (hn : s.now.length = n) : Calls Try.prog 31 #[.pointer (some ⟨d, 0, none⟩)] W fun en w' => en = .returned (.int .i64 (n : Int)) ∧ W = w' := by
  obtain ⟨sv, wv, rs, h1, h2, h3⟩ := h
  subst hn
  exact dm_len h2
theorem rm_ops (h : RM w0 W ((d, s) :: ds) p r bs rs0) (o : Int) (ho : s.ops = o) : Calls Try.prog 48 #[.pointer (some ⟨d, 0, none⟩)] W fun en w' => en = .returned (.int .i64 o) ∧ W = w' := by
  obtain ⟨sv, wv, rs, h1, h2, h3⟩ := h
  subst ho
  exact dm_ops h2
theorem rm_write (h : RM w0 W ((d, s) :: ds) p r bs rs0) (ho : s.ops < 1000000000) (i : Int) (v : Value) (x : List UInt8) (ha : ArgM w0 bs rs0 v x) :
    Calls Try.prog 18 #[.pointer (some ⟨d, 0, none⟩), .int .i64 i, v] W fun en W' => en = .returned (.int .i64 (s.write i x).2) ∧ RM w0 W' ((d, (s.write i x).1) :: ds) p r bs rs0 := by
  obtain ⟨sv, wv, rs, h1, h2, h3⟩ := h
  exact (dm_write h2 ho i v x (ha.mono (fun y hy => .tail _ hy) h1)).mono fun en W' ⟨he, h⟩ => ⟨he, sv, wv, rs, h1, h, h3⟩
theorem rm_flush (h : RM w0 W ((d, s) :: ds) p r bs rs0) (ho : s.ops < 1000000000) :
    Calls Try.prog 33 #[.pointer (some ⟨d, 0, none⟩)] W fun en W' => en = .returned (.int .i64 s.flush.2) ∧ RM w0 W' ((d, s.flush.1) :: ds) p r bs rs0 := by
  obtain ⟨sv, wv, rs, h1, h2, h3⟩ := h
  exact (dm_flush h2 ho).mono fun en W' ⟨he, h⟩ => ⟨he, sv, wv, rs, h1, h, h3⟩
theorem rm_fuse (h : RM w0 W ((d, s) :: ds) p r bs rs0) (ho : s.ops < 1000000000) (n : Int) (hn : -9223372036854775808 ≤ n ∧ n ≤ 9223372036854775807) :
    Calls Try.prog 21 #[.pointer (some ⟨d, 0, none⟩), .int .i64 n] W fun en W' => en = .returned (.tuple #[]) ∧ RM w0 W' ((d, s.fused n) :: ds) p r bs rs0 := by
  obtain ⟨sv, wv, rs, h1, h2, h3⟩ := h
  exact (dm_fuse h2 (by omega) n hn).mono fun en W' ⟨he, h⟩ => ⟨he, sv, wv, rs, h1, h, h3⟩
theorem rm_crash (h : RM w0 W ((d, s) :: ds) p r bs rs0) (v : Value) (x : List UInt8) (ha : ArgM w0 bs rs0 v x) :
    Calls Try.prog 22 #[.pointer (some ⟨d, 0, none⟩), v] W fun en W' => en = .returned (.tuple #[]) ∧ RM w0 W' ((d, s.crash x) :: ds) p r bs rs0 := by
  obtain ⟨sv, wv, rs, h1, h2, h3⟩ := h
  exact (dm_crash h2 v x (ha.mono (fun y hy => .tail _ hy) h1)).mono fun en W' ⟨he, h⟩ => ⟨he, sv, wv, rs, h1, h, h3⟩
theorem Dk.read_no {i e : Int} {x : List UInt8} (h : s.read i = (x, e)) (he : e ≠ 0) : x = [] := by
  unfold Dk.read at h
  split at h
  · split at h
    · injection h with h1 h2; exact h1.symm
    · injection h with h1 h2; exact absurd h2.symm he
  · injection h with h1 h2; exact h1.symm
theorem Rk.read_no {i e : Int} {x : List UInt8} (h : r.read i = (x, e)) (he : e ≠ 0) : x = [] := by
  unfold Rk.read at h
  split at h
  · split at h
    · injection h with h1 h2; exact h1.symm
    · injection h with h1 h2; exact absurd h2.symm he
  · injection h with h1 h2; exact h1.symm
theorem dm_readR (h : DM w0 W ((p, s) :: ds) bs rs) (i e : Int) (x : List UInt8) (hr : s.read i = (x, e)) :
    Calls Try.prog 17 #[.pointer (some ⟨p, 0, none⟩), .int .i64 i] W fun en W' => ∃ A n c, en = .returned (.tuple #[.slice A n c, .int .i64 e]) ∧ DM w0 W' ((p, s) :: ds) bs ((1, .slice A n c, bytesV x) :: rs) := by
  by_cases he : e = 0
  · subst he
    refine (dm_read h i x hr).mono fun en W' ⟨g, h1, h2, h3⟩ => ⟨_, _, _, h1, h3.freeze (sz := 1) (n := 64) (by rw [length_bytesV, h2]) (by unfold maxLen; omega)⟩
  · obtain rfl := Dk.read_no hr he
    exact (dm_readNo h i e he hr).mono fun en W' ⟨h1, h2⟩ => ⟨none, 0, 0, h1, h2.read (Below.refl _ _) (ReadsIn.nil_ _ _)⟩
theorem rm_read (h : RM w0 W ((d, s) :: ds) p r bs rs0) (i e : Int) (x : List UInt8) (hr : s.read i = (x, e)) :
    Calls Try.prog 17 #[.pointer (some ⟨d, 0, none⟩), .int .i64 i] W fun en W' => ∃ A n c, en = .returned (.tuple #[.slice A n c, .int .i64 e]) ∧ RM w0 W' ((d, s) :: ds) p r bs ((1, .slice A n c, bytesV x) :: rs0) := by
  obtain ⟨sv, wv, rs, h1, h2, h3⟩ := h
  refine (dm_readR h2 i e x hr).mono fun en W' ⟨A, n, c, he, h⟩ => ⟨A, n, c, he, sv, wv, (1, .slice A n c, bytesV x) :: rs, fun z hz => ?_, h, h3.mono (fun z hz => .tail _ hz)⟩
  rcases List.mem_cons.1 hz with rfl | hz
  · exact .head _
  · exact .tail _ (h1 z hz)
theorem rm_rread (h : RM w0 W ds p r bs rs0) (i e : Int) (x : List UInt8) (hr : r.read i = (x, e)) :
    Calls Try.prog 40 #[.pointer (some ⟨p, 0, none⟩), .int .i64 i] W fun en W' => ∃ A n c, en = .returned (.tuple #[.slice A n c, .int .i64 e]) ∧ RM w0 W' ds p r bs ((1, .slice A n c, bytesV x) :: rs0) := by
  refine (rread_any h i _ hr).mono fun en W' h2 => ?_
  rcases h2 with ⟨h2, he, h3⟩ | ⟨h2, _, A, c, he, h3⟩
  · obtain rfl := Rk.read_no hr h2
    refine ⟨none, 0, 0, he, ?_⟩
    obtain ⟨sv, wv, rs, h4, h5, h6⟩ := h3
    refine ⟨sv, wv, (1, .slice none 0 0, bytesV []) :: rs, fun z hz => ?_, h5.read (Below.refl _ _) (ReadsIn.nil_ _ _), h6.mono (fun z hz => .tail _ hz)⟩
    rcases List.mem_cons.1 hz with rfl | hz
    · exact .head _
    · exact .tail _ (h4 z hz)
  · simp only at h2
    subst h2
    exact ⟨A, 64, c, he, h3⟩
theorem write_ops (s : Dk) (i : Int) (x : List UInt8) : (s.write i x).1.ops ≤ s.ops + 1 := by
  unfold Dk.write
  split
  · split
    · simp [Dk.oper]
    · simp [Dk.oper, Dk.wrote]
  · simp only
    omega
theorem flush_ops (s : Dk) : s.flush.1.ops ≤ s.ops + 1 := by
  unfold Dk.flush
  split
  · simp [Dk.oper]
  · simp [Dk.oper, Dk.flushed]
end
end Go.Proofs.Ytjddplddpdcmdaa
