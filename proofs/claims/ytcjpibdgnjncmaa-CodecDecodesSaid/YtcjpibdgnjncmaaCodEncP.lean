/- What codec.Encode writes; a writer beside known blocks. -/
import Derived.Test.YtcjpibdgnjncmaaCodMay
import Derived.Test.YtcjpibdgnjncmaaReader4
namespace Go.Proofs.Ytcjpibdgnjncmaa
open Go.RowKit
set_option linter.unusedVariables false
set_option linter.unusedSimpArgs false

theorem wrapNat (n : Int) : IntKind.u64.wrap n = ((IntKind.u64.wrap n).toNat : Int) := by rw [IntKind.wrap_u64]; omega
theorem u32_nat (n : Int) : IntKind.u32.wrap n = ((IntKind.u32.wrap n).toNat : Int) ∧ (IntKind.u32.wrap n).toNat < 4294967296 := by
  unfold IntKind.wrap
  simp only [IntKind.bits, IntKind.signed]
  simp
  omega
/-- a number's lowest byte; two, four, eight -/
def enc1 (n : Int) : List UInt8 := beB (IntKind.u64.wrap n).toNat 1
def enc2 (n : Int) : List UInt8 := beB (IntKind.u64.wrap n).toNat 2
def enc4 (n : Int) : List UInt8 := beB (IntKind.u32.wrap n).toNat 4
def enc8 (n : Int) : List UInt8 := beB n.toNat 8
def encT (e : Int) (x : List Int) : List UInt8 := enc1 e ++ x.flatMap enc1
def encR (p : ParC) : List UInt8 := p.wd.flatMap enc2 ++ (encT p.we p.wx ++ (p.m.flatMap enc4 ++ (enc2 (p.bd.headD 0) ++ encT p.be p.bx)))
def encP (p : ParC) : List UInt8 := enc1 p.wd.length ++ if zeroP p = true then [] else encR p
def encH (seed step : Int) (n : Nat) : List UInt8 := [112, 100, 115, 116] ++ (enc8 seed ++ (enc4 step ++ enc1 n))
def encC (seed step : Int) (cs : List ParC) : List UInt8 := encH seed step cs.length ++ cs.flatMap encP
def encS (s : StV) : List UInt8 := encC s.seed s.step (s.ps.map (·.c))
theorem length_enc1 (n : Int) : (enc1 n).length = 1 := length_beB _ _
theorem length_enc2 (n : Int) : (enc2 n).length = 2 := length_beB _ _
theorem length_enc4 (n : Int) : (enc4 n).length = 4 := length_beB _ _
theorem length_enc8 (n : Int) : (enc8 n).length = 8 := length_beB _ _
theorem length_flatK (f : Int → List UInt8) (k : Nat) (h : ∀ n, (f n).length = k) (l : List Int) : (l.flatMap f).length = k * l.length := by
  induction l with
  | nil => simp
  | cons x l ih => rw [List.flatMap_cons, List.length_append, h, ih, List.length_cons, Nat.mul_add]; omega
theorem length_encT (e : Int) (x : List Int) : (encT e x).length = 1 + x.length := by unfold encT; rw [List.length_append, length_enc1, length_flatK enc1 1 length_enc1]; omega
theorem length_encR (p : ParC) : (encR p).length = 2 * p.wd.length + (1 + p.wx.length) + 4 * p.m.length + 2 + (1 + p.bx.length) := by
  unfold encR
  simp only [List.length_append, length_encT, length_enc2, length_flatK enc2 2 length_enc2, length_flatK enc4 4 length_enc4]
  omega
theorem length_encH (seed step : Int) (n : Nat) : (encH seed step n).length = 17 := by
  unfold encH
  simp only [List.length_append, length_enc8, length_enc4, length_enc1, List.length_cons, List.length_nil]
theorem mayB_len {d : List Int} {e : Int} {x : List Int} (h : mayB d e x = true) : 1 ≤ d.length ∧ d.length ≤ 4 ∧ x.length ≤ 8192 ∧ (x.length : Int) = sizeI d ∧ 0 < sizeI d := by
  unfold mayB at h
  simp only [Bool.and_eq_true, decide_eq_true_eq, beq_iff_eq, Bool.not_eq_true'] at h
  have h1 := sizeI_len h.1
  have h2 := sizeI_bound d
  have h3 := h.2.1
  have h4 := h.1
  exact ⟨h1.1, h1.2, by omega, h3, h4⟩
theorem mayC_small {p : ParC} (h : mayC p = true) : p.wd.length ≤ 4 ∧ p.wx.length ≤ 8192 ∧ p.m.length ≤ 8192 ∧ p.bd.length ≤ 1 ∧ p.bx.length ≤ 8192 ∧ (zeroP p = false → p.bd.length = 1) := by
  unfold mayC at h
  cases hz : zeroP p with
  | true =>
    have := zeroP_eq.1 hz
    subst this
    simp [zeroC]
  | false =>
    rw [hz, Bool.false_or] at h
    unfold movesB at h
    simp only [Bool.and_eq_true, decide_eq_true_eq] at h
    obtain ⟨h1, ⟨h2, _⟩, h3, h4⟩ := h
    have h5 := mayB_len h1
    have h6 := mayB_len h3
    refine ⟨h5.2.1, h5.2.2.1, by omega, by omega, h6.2.2.1, fun _ => h4⟩
theorem length_encP {p : ParC} (h : mayC p = true) : (encP p).length ≤ 50000 := by
  have h1 := mayC_small h
  unfold encP
  rw [List.length_append, length_enc1]
  split
  · simp
  · rw [length_encR]; omega
theorem length_encPs {cs : List ParC} (h : ∀ p ∈ cs, mayC p = true) : (cs.flatMap encP).length ≤ cs.length * 50000 := by
  induction cs with
  | nil => simp
  | cons x l ih =>
    rw [List.flatMap_cons, List.length_append, List.length_cons]
    have := length_encP (h x (by simp))
    have := ih (fun e he => h e (by simp [he]))
    omega
theorem flat_take {α : Type} (f : α → List UInt8) {l : List α} {k : Nat} {x : α} (h : l[k]? = some x) : (l.take (k + 1)).flatMap f = (l.take k).flatMap f ++ f x := by
  rw [List.take_add_one, h]
  simp
/-- a writer that is new, beside known blocks -/
structure EK (w0 w : World) (p : Nat) (v : Value) (bs : List UInt8) (ks : List (Nat × TypeId × List Value)) : Prop where
  bel : Below w0.heap.size w0 w
  wr : Wr w w0.heap.size p v bs
  blk : ∀ b ∈ ks, Blk w b.1 b.2.1 b.2.2 ∧ b.1 ≠ p ∧ v.ownBlock ≠ some b.1
  lp : w0.heap.size ≤ p
section
variable {w0 w w' : World} {p : Nat} {v v' : Value} {bs bs' : List UInt8} {ks : List (Nat × TypeId × List Value)}
theorem EK.put (h : EK w0 w p v bs ks) (hw : Wr w' w0.heap.size p v' bs') (hf : Fresh w v v') (ho : Off (WrS p v) w w') : EK w0 w' p v' bs' ks := by
  have hv : ∀ i, WrS p v i → w0.heap.size ≤ i := fun i hi => by
    rcases hi with rfl | hi
    · exact h.lp
    · exact (h.wr.own.lt i hi).1
  refine ⟨h.bel.trans (ho.below h.bel.size hv), hw, fun b hb => ?_, h.lp⟩
  obtain ⟨h1, h2, h3⟩ := h.blk b hb
  refine ⟨h1.off ho ?_, h2, ?_⟩
  · rintro (e | e)
    · exact h2 e
    · exact h3 e
  · intro e
    rcases hf.off e with e | e
    · exact h3 e
    · have := h1.lt; omega
theorem EK.below (h : EK w0 w p v bs ks) (hb : Below w.heap.size w w') : EK w0 w' p v bs ks :=
  ⟨h.bel.trans (hb.mono h.bel.size), h.wr.below hb, fun b hm => ⟨(h.blk b hm).1.below hb (h.blk b hm).1.lt, (h.blk b hm).2⟩, h.lp⟩
theorem EK.alloc (h : EK w0 w p v bs ks) (o : Obj) : EK w0 (w.alloc o) p v bs ks := h.below ((Below.refl _ w).alloc (Nat.le_refl _) o)
theorem EK.box (h : EK w0 w p v bs ks) (cs : List Value) (t : TypeId) : EK w0 (w.alloc (.cells cs.toArray t)) p v bs ((w.heap.size, t, cs) :: ks) := by
  have h2 := h.alloc (.cells cs.toArray t)
  refine ⟨h2.bel, h2.wr, fun b hb => ?_, h2.lp⟩
  rcases List.mem_cons.1 hb with rfl | hb
  · refine ⟨Blk.fresh w t cs, ?_, fun e => ?_⟩
    · have := h.wr.blk.lt; show w.heap.size ≠ p; omega
    · have := (h.wr.own.lt _ e).2; omega
  · exact h2.blk b hb
theorem EK.less (h : EK w0 w p v bs ks) {ks' : List (Nat × TypeId × List Value)} (hs : ∀ b ∈ ks', b ∈ ks) : EK w0 w p v bs ks' := ⟨h.bel, h.wr, fun b hb => h.blk b (hs b hb), h.lp⟩
theorem EK.get {b : Nat × TypeId × List Value} (h : EK w0 w p v bs (b :: ks)) : Blk w b.1 b.2.1 b.2.2 := (h.blk b (by simp)).1
end
end Go.Proofs.Ytcjpibdgnjncmaa
