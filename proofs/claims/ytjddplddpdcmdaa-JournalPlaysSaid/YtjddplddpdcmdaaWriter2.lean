/- Contracts of octet.Writer's methods; slices.Clone at bytes. -/
import Derived.Test.YtjddplddpdcmdaaWriter
import Derived.Lib.SliceRun
namespace Go.Proofs.Ytjddplddpdcmdaa
open Go.RowKit
set_option linter.unusedVariables false
set_option linter.unusedSimpArgs false

theorem u32_any (w : World) (B p : Nat) (v : Value) (bs : List UInt8) (h : Wr w B p v bs) (hB : B ≤ w.heap.size) (x : Int) (n : Nat) (hx : x = (n : Int)) (hn : n < 4294967296) (hl : bs.length + 8 ≤ 140737488355328) :
    Calls Try.prog 59 #[.pointer (some ⟨p, 0, none⟩), .int .u32 x] w (Put w B p v (bs ++ beB n 4)) := by
  subst hx
  go_enter Try.func59, Try.ntmps59
  go_wp2_with fail
  refine (put_any w B p v bs h hB n 4 (by omega) (by omega) hl).mono ?_
  rintro e w' ⟨rfl, hq⟩
  have HQ := Lib.hid hq
  clear hq
  go_wp2
  go_end0
  exact ⟨rfl, HQ.out⟩
/-- a new slice of these bytes -/
def NewBytes (w : World) (bs : List UInt8) (en : Ending) (w' : World) : Prop :=
  ∃ A c, en = .returned (.slice A bs.length c) ∧ w'.ownsRow w.heap.size 5 1 (.slice A bs.length c) bs.length (bytesV bs) ∧ Below w.heap.size w w'

theorem clone_any (w : World) (B : Nat) (v : Value) (bs : List UInt8) (h : Reads w B v (bytesV bs)) (hB : B ≤ w.heap.size) (hl : bs.length ≤ 140737488355328) :
    Calls Try.prog 35 #[v] w (NewBytes w bs) := by
  obtain ⟨A, n, c, rfl, hn, hc, hm, hat⟩ := h
  rw [length_bytesV] at hn
  have qT : ∀ (w : World) (a : Option Addr) (n c n' c' : Nat), (binOp .eql 31 (.slice a n c) (.slice none n' c')).run Try.prog w = .ok (.bool a.isNone) w := fun w a n c n' c' => Lib.run_eql_slice_nil w _ _ a n c n' c' Try.underlying31
  cases A with
  | none =>
    have h0 : n = 0 := by
      rcases Nat.eq_zero_or_pos n with h0 | h0
      · exact h0
      · obtain ⟨g, o, e, _⟩ := hat.out h0
        cases e
    have : bs = [] := List.eq_nil_of_length_eq_zero (by omega)
    subst this
    go_enter Try.func35, Try.ntmps35
    go_wp2
    go_ret
    exact ⟨none, 0, rfl, World.ownsRow_nil _ _ _ _, Below.refl _ _⟩
  | some a =>
    have hr : Reads w B (.slice (some a) n c) (bytesV bs) := ⟨_, n, c, rfl, by rw [length_bytesV]; exact hn, hc, hm, hat⟩
    have hown : (w.alloc (.cells #[] 5)).ownsRow w.heap.size 5 1 (.slice (some ⟨w.heap.size, 0, none⟩) 0 0) 0 [] :=
      (Blk.fresh w 5 []).ownAll (Nat.le_refl _) (by unfold maxLen; omega) rfl
    go_enter Try.func35, Try.ntmps35
    go_wp2_with (at_builtin; refine wpList_extend elem_byte _ rfl (.tmp 5) (.tmp 6) rfl w.heap.size 0 _ [] rfl hown B _ (bytesV bs) rfl (hr.alloc hB _) (bytesV_one _) (by rw [length_bytesV]; unfold maxLen; omega) (by rw [length_bytesV]; omega) (by simp) ?_; intro A' c' w1 hown1 hgrow hfr)
    go_ret
    refine ⟨A', c', ?_, ?_, ((Below.refl _ _).alloc (Nat.le_refl _) _).grown hgrow (by simp) (fun k hk => (hown.lt k hk).1)⟩
    · show Ending.returned (.slice A' (bytesV bs).length c') = _
      rw [length_bytesV]
    · rw [Nat.zero_add, List.nil_append, length_bytesV] at hown1
      exact hown1

/-- what the writer has put together -/
theorem bytes_any (w : World) (B p : Nat) (v : Value) (bs : List UInt8) (h : Wr w B p v bs) (hl : bs.length ≤ 140737488355328) :
    Calls Try.prog 61 #[.pointer (some ⟨p, 0, none⟩)] w (NewBytes w bs) := by
  have hc : w.cell? ⟨p, 0, none⟩ = some v := h.blk.cell 0
  have hr := Reads.of_own h.own
  go_enter Try.func61, Try.ntmps61
  go_wp2_with fail
  refine (clone_any w _ v bs hr (Nat.le_refl _) hl).mono ?_
  rintro e w' ⟨A, c, rfl, hown, hb⟩
  go_wp2
  go_ret
  exact ⟨A, c, rfl, hown, hb⟩
/-- bytes behind -/
theorem raw_any (w : World) (B p : Nat) (v : Value) (bs : List UInt8) (h : Wr w B p v bs) (hB : B ≤ w.heap.size) (C : Nat) (x : Value) (news : List UInt8) (hr : Reads w C x (bytesV news)) (hl : bs.length + news.length ≤ 140737488355328) :
    Calls Try.prog 58 #[.pointer (some ⟨p, 0, none⟩), x] w (Put w B p v (bs ++ news)) := by
  have hc : w.cell? ⟨p, 0, none⟩ = some v := h.blk.cell 0
  have hf := h.blk.free 0
  have hp := h.blk.lt
  obtain ⟨A0, c0, rfl⟩ := own_form h.own
  go_enter Try.func58, Try.ntmps58
  go_wp2_with (at_builtin; refine wpList_extend elem_byte _ rfl (.tmp 10) (.tmp 11) rfl B bs.length _ (bytesV bs) rfl h.own C _ (bytesV news) rfl hr (bytesV_one _) (by rw [length_bytesV]; unfold maxLen; omega) (by rw [length_bytesV]; omega) hB ?_; intro A' c' w1 hown hgrow hfr; have hbk := h.blk.grown hgrow (Ne.symm h.ne); have hc1 : w1.cell? ⟨p, 0, none⟩ = some (.slice A0 bs.length c0) := hbk.cell 0; have hf1 := hbk.free 0)
  go_end0
  clear hc hf hc1 hf1
  refine ⟨rfl, .slice A' (bs.length + (bytesV news).length) c', ⟨hbk.put 0 _, ?_, ?_⟩, hfr, ?_⟩
  · have hne2 : (Value.slice A' (bs.length + (bytesV news).length) c').ownBlock ≠ some p := by
      intro he
      rcases hfr.off he with h1 | h1
      · exact h.ne h1
      · omega
    have h1 := own_off (w' := w1.setCell ⟨p, 0, none⟩ (.slice A' (bs.length + (bytesV news).length) c')) hown ((Off.refl (fun i => i = p) w1).setCell (p := ⟨p, 0, none⟩) (.inl rfl) _) (fun k hk he => hne2 (by rw [← he]; exact hk))
    rw [← bytesV_append, List.length_append, ← length_bytesV news]
    exact h1
  · intro he
    rcases hfr.off he with h1 | h1
    · exact h.ne h1
    · omega
  · exact ((Off.refl _ w).grown hgrow (fun g hg => .inl (.inr hg))).setCell (p := ⟨p, 0, none⟩) (.inl (.inl rfl)) _

/-- two writers that share nothing -/
structure Two (w : World) (B p q : Nat) (u v : Value) (xs ys : List UInt8) : Prop where
  a : Wr w B p u xs
  b : Wr w B q v ys
  pq : p ≠ q
  lp : B ≤ p
  lq : B ≤ q
  s1 : v.ownBlock ≠ some p
  s2 : u.ownBlock ≠ some q
  s3 : ∀ k, u.ownBlock = some k → v.ownBlock ≠ some k
theorem Two.swap {w : World} {B p q : Nat} {u v : Value} {xs ys : List UInt8} (h : Two w B p q u v xs ys) : Two w B q p v u ys xs :=
  ⟨h.b, h.a, Ne.symm h.pq, h.lq, h.lp, h.s2, h.s1, fun k hk he => h.s3 k he hk⟩
theorem Two.size {w : World} {B p q : Nat} {u v : Value} {xs ys : List UInt8} (h : Two w B p q u v xs ys) : B ≤ w.heap.size := by
  have := h.a.blk.lt
  have := h.lp
  omega
theorem Wr.drew {w : World} {B p : Nat} {v : Value} {bs : List UInt8} (h : Wr w B p v bs) : Wr w.drew B p v bs := ⟨h.blk, h.own, h.ne⟩
theorem Wr.below {w w' : World} {B p : Nat} {v : Value} {bs : List UInt8} (h : Wr w B p v bs) (hb : Below w.heap.size w w') : Wr w' B p v bs :=
  h.off (S := fun i => w.heap.size ≤ i) (Off.of_below hb (fun i hi => .inl hi)) (by have := h.blk.lt; omega) (fun k hk => by have := (h.own.lt k hk).2; omega)
theorem Two.below {w w' : World} {B p q : Nat} {u v : Value} {xs ys : List UInt8} (h : Two w B p q u v xs ys) (hb : Below w.heap.size w w') : Two w' B p q u v xs ys :=
  ⟨h.a.below hb, h.b.below hb, h.pq, h.lp, h.lq, h.s1, h.s2, h.s3⟩
theorem Two.step {w w' : World} {B p q : Nat} {u v v' : Value} {xs ys ys' : List UInt8} (h : Two w B p q u v xs ys) (hw : Wr w' B q v' ys') (hf : Fresh w v v') (ho : Off (WrS q v) w w') :
    Two w' B p q u v' xs ys' ∧ Below B w w' := by
  have hp := h.a.blk.lt
  have hu := h.a.own.lt
  refine ⟨⟨h.a.off ho (fun hS => ?_) (fun k hk hS => ?_), hw, h.pq, h.lp, h.lq, fun he => ?_, h.s2, fun k hk he => ?_⟩, ho.below h.size (fun i hi => ?_)⟩
  · rcases hS with hS | hS
    · exact h.pq hS
    · exact h.s1 hS
  · rcases hS with rfl | hS
    · exact h.s2 hk
    · exact h.s3 k hk hS
  · rcases hf.off he with h1 | h1
    · exact h.s1 h1
    · omega
  · rcases hf.off he with h1 | h1
    · exact h.s3 k hk h1
    · have := (hu k hk).2; omega
  · rcases hi with rfl | hi
    · exact h.lq
    · exact (h.b.own.lt i hi).1
end Go.Proofs.Ytjddplddpdcmdaa
