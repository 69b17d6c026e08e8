/- The reference's disk in memory; contracts of op, Fuse, Down, Read. -/
import Derived.Test.YtjddplddpdcmdaaSecDM
import Derived.Test.YtjddplddpdcmdaaSecRPlain
namespace Go.Proofs.Ytjddplddpdcmdaa
open Go.RowKit
set_option linter.unusedVariables false
set_option linter.unusedSimpArgs false

/-- slices, one for each row of bytes -/
def Vs (rs : List (Nat × Value × List Value)) (svs : List Value) (xs : List (List UInt8)) : Prop := svs.length = xs.length ∧ ∀ (i : Nat) (x : List UInt8), xs[i]? = some x → ∃ v, svs[i]? = some v ∧ (1, v, bytesV x) ∈ rs
def putV (e : Nat × Value) : List Value := [.int .i64 (e.1 : Int), e.2]
/-- writes, one for each of the log -/
def Ps (rs : List (Nat × Value × List Value)) (ps : List (Nat × Value)) (l : List (Nat × List UInt8)) : Prop := ps.length = l.length ∧ ∀ (i : Nat) (e : Nat × List UInt8), l[i]? = some e → ∃ v, ps[i]? = some (e.1, v) ∧ (1, v, bytesV e.2) ∈ rs
structure RDk (rs : List (Nat × Value × List Value)) (sv wv : Value) (r : Rk) : Prop where
  ok : r.Ok
  sure : ∃ svs, (1, sv, svs) ∈ rs ∧ Vs rs svs r.sure
  log : ∃ ps, (2, wv, ps.flatMap putV) ∈ rs ∧ Ps rs ps r.log
def rcells (sv wv : Value) (r : Rk) : List Value := [sv, wv, .int .i64 r.n, .int .i64 r.fuse, .bool r.down]
/-- the reference's disk at p, beside all else -/
def RM (w0 W : World) (ds : List (Nat × Dk)) (p : Nat) (r : Rk) (bs : List (Nat × TypeId × List Value)) (rs0 : List (Nat × Value × List Value)) : Prop :=
  ∃ sv wv rs, (∀ x ∈ rs0, x ∈ rs) ∧ DM w0 W ds ((p, 79, rcells sv wv r) :: bs) rs ∧ RDk rs sv wv r
section
variable {w0 W W' : World} {ds ds' : List (Nat × Dk)} {bs bs' : List (Nat × TypeId × List Value)} {rs rs' rs0 : List (Nat × Value × List Value)} {p g : Nat} {r r' : Rk} {svs : List Value} {xs : List (List UInt8)} {ps : List (Nat × Value)} {l : List (Nat × List UInt8)} {sv wv v : Value}
theorem Vs.mono (h : Vs rs svs xs) (hs : ∀ x ∈ rs, x ∈ rs') : Vs rs' svs xs := ⟨h.1, fun i x hx => by
  obtain ⟨v, h1, h2⟩ := h.2 i x hx
  exact ⟨v, h1, hs _ h2⟩⟩
theorem Ps.mono (h : Ps rs ps l) (hs : ∀ x ∈ rs, x ∈ rs') : Ps rs' ps l := ⟨h.1, fun i x hx => by
  obtain ⟨v, h1, h2⟩ := h.2 i x hx
  exact ⟨v, h1, hs _ h2⟩⟩
theorem RDk.mono (h : RDk rs sv wv r) (hs : ∀ x ∈ rs, x ∈ rs') : RDk rs' sv wv r := by
  obtain ⟨h1, ⟨svs, h2, h3⟩, ps, h4, h5⟩ := h
  exact ⟨h1, ⟨svs, hs _ h2, h3.mono hs⟩, ps, hs _ h4, h5.mono hs⟩
theorem RDk.same (h : RDk rs sv wv r) (hok : r'.Ok) (e1 : r'.sure = r.sure) (e2 : r'.log = r.log) : RDk rs sv wv r' := ⟨hok, by rw [e1]; exact h.sure, by rw [e2]; exact h.log⟩
theorem RM.bel (h : RM w0 W ds p r bs rs0) : Below w0.heap.size w0 W := by
  obtain ⟨sv, wv, rs, h1, h2, h3⟩ := h
  exact h2.bel
theorem RM.ok (h : RM w0 W ds p r bs rs0) : r.Ok := by
  obtain ⟨sv, wv, rs, h1, h2, h3⟩ := h
  exact h3.ok
theorem RM.sub (h : RM w0 W ds p r bs rs) (hs : ∀ x ∈ rs0, x ∈ rs) : RM w0 W ds p r bs rs0 := by
  obtain ⟨sv, wv, rs1, h1, h2, h3⟩ := h
  exact ⟨sv, wv, rs1, fun x hx => h1 x (hs x hx), h2, h3⟩
theorem RM.below (h : RM w0 W ds p r bs rs0) (hb : Below W.heap.size W W') : RM w0 W' ds p r bs rs0 := by
  obtain ⟨sv, wv, rs, h1, h2, h3⟩ := h
  exact ⟨sv, wv, rs, h1, h2.below hb, h3⟩
theorem RM.dropB {b : Nat × TypeId × List Value} (h : RM w0 W ds p r (b :: bs) rs0) : RM w0 W ds p r bs rs0 := by
  obtain ⟨sv, wv, rs, h1, h2, h3⟩ := h
  exact ⟨sv, wv, rs, h1, (h2.permB (.swap _ _ _)).dropB, h3⟩
theorem RM.drop {d : Nat} {s : Dk} (h : RM w0 W ((d, s) :: ds) p r bs rs0) : RM w0 W ds p r bs rs0 := by
  obtain ⟨sv, wv, rs, h1, h2, h3⟩ := h
  exact ⟨sv, wv, rs, h1, h2.drop, h3⟩
theorem RM.perm (h : RM w0 W ds p r bs rs0) (hp : ds.Perm ds') : RM w0 W ds' p r bs rs0 := by
  obtain ⟨sv, wv, rs, h1, h2, h3⟩ := h
  exact ⟨sv, wv, rs, h1, h2.perm hp, h3⟩
/-- what keeps all readings, and the disk's own block -/
theorem RM.lift (h : RM w0 W ds p r bs rs0) (f : ∀ b rs, (∀ x ∈ rs0, x ∈ rs) → DM w0 W ds (b :: bs) rs → DM w0 W' ds' (b :: bs') rs) : RM w0 W' ds' p r bs' rs0 := by
  obtain ⟨sv, wv, rs, h1, h2, h3⟩ := h
  exact ⟨sv, wv, rs, h1, f _ _ h1 h2, h3⟩
/-- a part of an argument's place: with more known -/
theorem ArgM.mono {v : Value} {x : List UInt8} (h : ArgM w0 bs rs0 v x) (hb : ∀ y ∈ bs, y ∈ bs') (hs : ∀ y ∈ rs0, y ∈ rs) : ArgM w0 bs' rs v x := by
  rcases h with h | ⟨g, t, n, h1, h2, h3, h4⟩ | h
  · exact .inl h
  · exact .inr (.inl ⟨g, t, n, h1, h2, h3, hb _ h4⟩)
  · exact .inr (.inr (hs _ h))
theorem RM.argReads (h : RM w0 W ds p r bs rs0) {v : Value} {x : List UInt8} (ha : ArgM w0 bs rs0 v x) : Reads W W.heap.size v (bytesV x) := by
  obtain ⟨sv, wv, rs, h1, h2, h3⟩ := h
  exact h2.argReads (ha.mono (fun y hy => .tail _ hy) h1)
theorem rop_any (h : RM w0 W ds p r bs rs0) (hn : r.n < 1000000000) : Calls Try.prog 47 #[.pointer (some ⟨p, 0, none⟩)] W fun en W' => en = .returned (.bool r.op.down) ∧ RM w0 W' ds p r.op bs rs0 := by
  obtain ⟨sv, wv, rs, h1, h2, h3⟩ := h
  have hb := h2.blk (.head _)
  have h0 := h3.ok.n0
  have hf := h3.ok.fuse0
  have k2 := hb.cell 2
  have k3 := hb.cell 3
  have k4 := hb.cell 4
  have f2 := hb.free 2
  have f3 := hb.free 3
  have f4 := hb.free 4
  simp only [rcells, List.getElem?_cons_zero, List.getElem?_cons_succ] at k2 k3 k4 f2 f3 f4
  have H1 := Lib.hid h1
  have H2 := Lib.hid h2
  have HB := Lib.hid hb
  have H3 := Lib.hid (h3.same (Rk.op_ok h3.ok) rfl rfl)
  clear h1 h2 h3 hb
  obtain ⟨sure, log, n, fuse, down⟩ := r
  simp only at hn h0 hf k2 k3 k4
  by_cases hf1 : 0 < fuse
  · have t1 : decide (0 < fuse) = true := by simp; omega
    by_cases hf2 : fuse = 1
    · subst hf2
      cases down <;>
      · go_enter Try.func47, Try.ntmps47
        go_wp2
        go_ret
        refine ⟨by simp [Rk.op], sv, wv, rs, H1.out, H2.out.turn ?_ ?_, H3.out⟩
        · exact (((Off.refl (fun i => i = p) W).setCell (p := ⟨p, 2, none⟩) (.inl rfl) _).setCell (p := ⟨p, 3, none⟩) (.inl rfl) _).setCell (p := ⟨p, 4, none⟩) (.inl rfl) _
        · have hb := ((HB.out.put 2 (.int .i64 (n + 1))).put 3 (.int .i64 0)).put 4 (.bool true)
          simpa [Rk.op, rcells] using hb
    · have t2 : (fuse - 1 == 0) = false := by simp; omega
      cases down <;>
      · go_enter Try.func47, Try.ntmps47
        go_wp2
        go_ret
        refine ⟨by simp [Rk.op, t2], sv, wv, rs, H1.out, H2.out.turn ?_ ?_, H3.out⟩
        · exact (((Off.refl (fun i => i = p) W).setCell (p := ⟨p, 2, none⟩) (.inl rfl) _).setCell (p := ⟨p, 3, none⟩) (.inl rfl) _).setCell (p := ⟨p, 4, none⟩) (.inl rfl) _
        · first
            | (have hb := ((HB.out.put 2 (.int .i64 (n + 1))).put 3 (.int .i64 (fuse - 1))).put 4 (.bool true); simpa [Rk.op, rcells, hf1, t2] using hb)
            | (have hb := ((HB.out.put 2 (.int .i64 (n + 1))).put 3 (.int .i64 (fuse - 1))).put 4 (.bool false); simpa [Rk.op, rcells, hf1, t2] using hb)
  · have t1 : decide (0 < fuse) = false := by simp; omega
    have HF : Hid (¬ 0 < fuse) := Lib.hid hf1
    clear hf1
    cases down <;>
    · go_enter Try.func47, Try.ntmps47
      go_wp2
      go_ret
      refine ⟨by simp [Rk.op, t1], sv, wv, rs, H1.out, H2.out.turn ?_ ?_, H3.out⟩
      · exact ((Off.refl (fun i => i = p) W).setCell (p := ⟨p, 2, none⟩) (.inl rfl) _)
      · have hb := (HB.out.put 2 (.int .i64 (n + 1)))
        have hif : (if 0 < fuse then fuse - 1 else fuse) = fuse := if_neg (by have := HF.out; omega)
        simpa [Rk.op, rcells, t1, hif] using hb
theorem rfuse_any (h : RM w0 W ds p r bs rs0) (n : Int) (hn : n ≤ 9223372036854775807) : Calls Try.prog 26 #[.pointer (some ⟨p, 0, none⟩), .int .i64 n] W fun en W' => en = .returned (.tuple #[]) ∧ RM w0 W' ds p (r.fused n) bs rs0 := by
  obtain ⟨sv, wv, rs, h1, h2, h3⟩ := h
  have hb := h2.blk (.head _)
  have k3 := hb.cell 3
  have k4 := hb.cell 4
  have f3 := hb.free 3
  have f4 := hb.free 4
  simp only [rcells, List.getElem?_cons_zero, List.getElem?_cons_succ] at k3 k4 f3 f4
  have H1 := Lib.hid h1
  have H2 := Lib.hid h2
  have HB := Lib.hid hb
  have H3 := Lib.hid (h3.same (Rk.fused_ok h3.ok hn) rfl rfl)
  clear h1 h2 h3 hb
  go_enter Try.func26, Try.ntmps26
  by_cases hn0 : 0 < n
  · have e : max 0 n = n := by omega
    go_wp2
    go_end0
    refine ⟨rfl, sv, wv, rs, H1.out, H2.out.turn ?_ ?_, H3.out⟩
    · exact ((Off.refl (fun i => i = p) W).setCell (p := ⟨p, 3, none⟩) (.inl rfl) _).setCell (p := ⟨p, 4, none⟩) (.inl rfl) _
    · have hb := (HB.out.put 3 (.int .i64 n)).put 4 (.bool false)
      simpa [Rk.fused, rcells, e] using hb
  · have e : max 0 n = 0 := by omega
    go_wp2
    go_end0
    refine ⟨rfl, sv, wv, rs, H1.out, H2.out.turn ?_ ?_, H3.out⟩
    · exact ((Off.refl (fun i => i = p) W).setCell (p := ⟨p, 3, none⟩) (.inl rfl) _).setCell (p := ⟨p, 4, none⟩) (.inl rfl) _
    · have hb := (HB.out.put 3 (.int .i64 0)).put 4 (.bool false)
      simpa [Rk.fused, rcells, e] using hb
end
end Go.Proofs.Ytjddplddpdcmdaa
