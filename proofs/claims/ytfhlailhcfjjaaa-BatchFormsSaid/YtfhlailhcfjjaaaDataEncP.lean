/- What dataset.Encode writes; a writer beside a known block. -/
import Derived.Test.YtfhlailhcfjjaaaDataMay2
import Derived.Test.YtfhlailhcfjjaaaReader4
namespace Go.Proofs.Ytfhlailhcfjjaaa
open Go.RowKit
set_option linter.unusedVariables false
set_option linter.unusedSimpArgs false

theorem wrapNat (n : Int) : IntKind.u64.wrap n = ((IntKind.u64.wrap n).toNat : Int) := by rw [IntKind.wrap_u64]; omega
/-- a number's lowest byte; a number's two -/
def enc1 (n : Int) : List UInt8 := beB (IntKind.u64.wrap n).toNat 1
def enc2 (n : Int) : List UInt8 := beB (IntKind.u64.wrap n).toNat 2
def encEx (e : ExV) : List UInt8 := enc1 e.label ++ e.data.flatMap enc1
def encHead (d : DatV) : List UInt8 := [112, 100, 100, 115] ++ [d.a, d.b, d.c, d.exp, d.cl].flatMap enc1 ++ enc2 d.xs.length
def encD (d : DatV) : List UInt8 := encHead d ++ d.xs.flatMap encEx
theorem length_enc1 (n : Int) : (enc1 n).length = 1 := length_beB _ _
theorem length_enc2 (n : Int) : (enc2 n).length = 2 := length_beB _ _
theorem length_flat1 (l : List Int) : (l.flatMap enc1).length = l.length := by
  induction l with
  | nil => rfl
  | cons x l ih => rw [List.flatMap_cons, List.length_append, length_enc1, ih, List.length_cons]; omega
theorem length_encEx (e : ExV) : (encEx e).length = 1 + e.data.length := by unfold encEx; rw [List.length_append, length_enc1, length_flat1]
theorem length_encHead (d : DatV) : (encHead d).length = 11 := by
  unfold encHead
  rw [List.length_append, List.length_append, length_flat1, length_enc2]
  rfl
theorem length_exs {xs : List ExV} {m : Nat} (h : ∀ e ∈ xs, e.data.length ≤ m) : (xs.flatMap encEx).length ≤ xs.length * (1 + m) := by
  induction xs with
  | nil => simp
  | cons x l ih =>
    rw [List.flatMap_cons, List.length_append, length_encEx, List.length_cons]
    have := h x (by simp)
    have := ih (fun e he => h e (by simp [he]))
    have e : (l.length + 1) * (1 + m) = l.length * (1 + m) + (1 + m) := Nat.succ_mul _ _
    omega
theorem flat_take {α : Type} (f : α → List UInt8) {l : List α} {k : Nat} {x : α} (h : l[k]? = some x) : (l.take (k + 1)).flatMap f = (l.take k).flatMap f ++ f x := by
  rw [List.take_add_one, h]
  simp
/-- a writer that is new, beside a known block -/
structure ES (w0 w : World) (q : Nat) (T : TypeId) (cs : List Value) (p : Nat) (v : Value) (bs : List UInt8) : Prop where
  bel : Below w0.heap.size w0 w
  wr : Wr w w0.heap.size p v bs
  blk : Blk w q T cs
  pq : q ≠ p
  vq : v.ownBlock ≠ some q
  lp : w0.heap.size ≤ p
section
variable {w0 w w' : World} {q p : Nat} {T : TypeId} {cs : List Value} {v v' : Value} {bs bs' : List UInt8}
theorem ES.put (h : ES w0 w q T cs p v bs) (hw : Wr w' w0.heap.size p v' bs') (hf : Fresh w v v') (ho : Off (WrS p v) w w') : ES w0 w' q T cs p v' bs' := by
  have hv : ∀ i, WrS p v i → w0.heap.size ≤ i := fun i hi => by
    rcases hi with rfl | hi
    · exact h.lp
    · exact (h.wr.own.lt i hi).1
  refine ⟨h.bel.trans (ho.below h.bel.size hv), hw, h.blk.off ho ?_, h.pq, ?_, h.lp⟩
  · rintro (e | e)
    · exact h.pq e
    · exact h.vq e
  · intro e
    rcases hf.off e with e | e
    · exact h.vq e
    · have := h.blk.lt; omega
theorem ES.below (h : ES w0 w q T cs p v bs) (hb : Below w.heap.size w w') : ES w0 w' q T cs p v bs :=
  ⟨h.bel.trans (hb.mono h.bel.size), h.wr.below hb, h.blk.below hb h.blk.lt, h.pq, h.vq, h.lp⟩
theorem ES.alloc (h : ES w0 w q T cs p v bs) (o : Obj) : ES w0 (w.alloc o) q T cs p v bs := h.below ((Below.refl _ w).alloc (Nat.le_refl _) o)
theorem ES.drew (h : ES w0 w q T cs p v bs) : ES w0 w.drew q T cs p v bs := h.below (Below.refl _ w).drew
theorem ES.drewN (h : ES w0 w q T cs p v bs) (n : Nat) : ES w0 (w.drewN n) q T cs p v bs := h.below ⟨rfl, rfl, rfl, Nat.le_refl _, fun _ _ => rfl⟩
end
theorem mayD_of {d : DatV} (h : mayD d = true) : headI d d.xs.length = true ∧ ∀ e ∈ d.xs, oneI d e = true := by
  unfold mayD at h
  simp only [Bool.and_eq_true, List.all_eq_true] at h
  exact h
theorem oneI_len {d : DatV} {e : ExV} (h : oneI d e = true) : (e.data.length : Int) = sizeD d := by
  unfold oneI at h
  simp only [Bool.and_eq_true, beq_iff_eq] at h
  exact h.1
theorem mayD_lens {d : DatV} (h : mayD d = true) : d.xs.length ≤ 64 ∧ ∀ e ∈ d.xs, e.data.length ≤ 2048 := by
  obtain ⟨h1, h2⟩ := mayD_of h
  have h3 := headI_of h1
  have h4 := sizeD_in h1
  refine ⟨by omega, fun e he => ?_⟩
  have := oneI_len (h2 e he)
  omega
end Go.Proofs.Ytfhlailhcfjjaaa
