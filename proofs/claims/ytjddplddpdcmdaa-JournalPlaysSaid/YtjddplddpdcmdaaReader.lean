/- Contracts of octet.Reader: take, number and what stands on them. -/
import Derived.Test.YtjddplddpdcmdaaWriter2
import Derived.BigQuiet
import Derived.Deep.QuietTactic
namespace Go.Proofs.Ytjddplddpdcmdaa
open Go.RowKit
set_option linter.unusedVariables false
set_option linter.unusedSimpArgs false

theorem or_byte (n : Nat) (c : UInt8) (h : n < 72057594037927936) : bits .or .u64 ((n : Int) * 256) (c.toNat : Int) = ((n * 256 + c.toNat : Nat) : Int) := by
  have hc := c.toNat_lt
  have h1 := u64_or_nat (n * 256) c.toNat (by omega) (by omega)
  rw [show ((n * 256 : Nat) : Int) = (n : Int) * 256 from by simp] at h1
  rw [h1]
  congr 1
  have h2 := Nat.two_pow_add_eq_or_of_lt (i := 8) (b := c.toNat) (by omega) n
  rw [show 2 ^ 8 * n = n * 256 from by omega] at h2
  exact h2.symm

/-- the reader at p (of type T) has these bytes left, and this error -/
structure Rd (T : TypeId) (w : World) (p : Nat) (A : Option Addr) (c : Nat) (bs : List UInt8) (e : Int) : Prop where
  blk : Blk w p T [.slice A bs.length c, .int .i64 e]
  rd : Reads w w.heap.size (.slice A bs.length c) (bytesV bs)
  ne : Hid (0 < bs.length → ∀ a, A = some a → a.block ≠ p)
theorem Rd.off {T : TypeId} {w w' : World} {p : Nat} {A : Option Addr} {c : Nat} {bs : List UInt8} {e : Int} {S : Nat → Prop} (h : Rd T w p A c bs e) (ho : Off S w w') (hp : ¬ S p) (hA : 0 < bs.length → ∀ a, A = some a → ¬ S a.block) : Rd T w' p A c bs e := by
  refine ⟨h.blk.off ho hp, ?_, h.ne⟩
  obtain ⟨A', n, c', e', hl, hc, hm, hat⟩ := h.rd
  injection e' with e1 e2 e3
  subst e1 e2 e3
  refine ⟨_, _, _, rfl, hl, hc, hm, fun hn => ?_⟩
  obtain ⟨g, o, rfl, hg, hx⟩ := hat.out hn
  exact ⟨g, o, rfl, by have := ho.size; omega, fun j u hu => (ho.cell (p := ⟨g, o + j, none⟩) hg (hA hn ⟨g, o, none⟩ rfl)).trans (hx j u hu)⟩

theorem Rd.below {T : TypeId} {w w' : World} {p : Nat} {A : Option Addr} {c : Nat} {bs : List UInt8} {e : Int} (h : Rd T w p A c bs e) (hb : Below w.heap.size w w') : Rd T w' p A c bs e :=
  ⟨h.blk.below hb h.blk.lt, (h.rd.below hb).more hb.size, h.ne⟩
/-- what is told, left, and the error behind a call for n bytes -/
def takeOut (bs : List UInt8) (e n : Int) : List UInt8 := if e ≠ 0 ∨ n ≤ 0 then [] else if (bs.length : Int) < n then [] else bs.take n.toNat
def takeLeft (bs : List UInt8) (e n : Int) : List UInt8 := if e ≠ 0 ∨ n ≤ 0 then bs else if (bs.length : Int) < n then [] else bs.drop n.toNat
def takeErr (bs : List UInt8) (e n : Int) : Int := if e ≠ 0 ∨ n ≤ 0 then e else if (bs.length : Int) < n then 4 else e
/-- a reader's bytes were taken -/
def Took (T : TypeId) (w : World) (p : Nat) (A : Option Addr) (out bs : List UInt8) (e : Int) (en : Ending) (w' : World) : Prop :=
  ∃ A' c' B c, en = .returned (.slice A' out.length c') ∧ w'.ownsRow w.heap.size 5 1 (.slice A' out.length c') out.length (bytesV out) ∧ Rd T w' p B c bs e ∧
    (∀ a, B = some a → ∃ b, A = some b ∧ b.block = a.block) ∧ Off (fun i => i = p) w w'

theorem take_none (w : World) (p : Nat) (A : Option Addr) (c : Nat) (bs : List UInt8) (e n : Int) (h : Rd 97 w p A c bs e) (hx : e ≠ 0 ∨ n ≤ 0) :
    Calls Try.prog 56 #[.pointer (some ⟨p, 0, none⟩), .int .i64 n] w (Took 97 w p A [] bs e) := by
  have hc0 : w.cell? ⟨p, 0, none⟩ = some (.slice A bs.length c) := h.blk.cell 0
  have hc1 : w.cell? ⟨p, 1, none⟩ = some (.int .i64 e) := h.blk.cell 1
  by_cases he : e = 0
  · subst he
    have hn : n ≤ 0 := by
      rcases hx with hx | hx
      · exact absurd rfl hx
      · exact hx
    have t1 : decide (n ≤ 0) = true := by simpa using hn
    go_enter Try.func56, Try.ntmps56
    go_wp2
    go_ret
    exact ⟨none, 0, A, c, rfl, World.ownsRow_nil _ _ _ _, h, fun a ha => ⟨a, ha, rfl⟩, Off.refl _ _⟩
  · have t1 : (e != 0) = true := by simpa using he
    go_enter Try.func56, Try.ntmps56
    go_wp2
    go_ret
    exact ⟨none, 0, A, c, rfl, World.ownsRow_nil _ _ _ _, h, fun a ha => ⟨a, ha, rfl⟩, Off.refl _ _⟩

theorem take_short (w : World) (p : Nat) (A : Option Addr) (c : Nat) (bs : List UInt8) (n : Int) (h : Rd 97 w p A c bs 0) (h0 : 0 < n) (hx : (bs.length : Int) < n) :
    Calls Try.prog 56 #[.pointer (some ⟨p, 0, none⟩), .int .i64 n] w (Took 97 w p A [] [] 4) := by
  have hc0 : w.cell? ⟨p, 0, none⟩ = some (.slice A bs.length c) := h.blk.cell 0
  have hc1 : w.cell? ⟨p, 1, none⟩ = some (.int .i64 0) := h.blk.cell 1
  have hf0 := h.blk.free 0
  have hf1 := h.blk.free 1
  have t1 : decide (n ≤ 0) = false := by simp; omega
  have t2 : decide ((bs.length : Int) < n) = true := by simpa using hx
  go_enter Try.func56, Try.ntmps56
  go_wp2
  go_ret
  have hoff : Off (fun i => i = p) w ((w.setCell ⟨p, 0, none⟩ (.slice none 0 0)).setCell ⟨p, 1, none⟩ (.int .i64 4)) :=
    ((Off.refl (fun i => i = p) w).setCell (p := ⟨p, 0, none⟩) (.inl rfl) _).setCell (p := ⟨p, 1, none⟩) (.inl rfl) _
  exact ⟨none, 0, none, 0, rfl, World.ownsRow_nil _ _ _ _, ⟨(h.blk.put 0 _).put 1 _, Reads.nil_ _ _, Lib.hid (by intro h0 a ha; cases ha)⟩, (by intro a ha; cases ha), hoff⟩

/-- the first ones, the others -/
theorem Reads.firsts {w : World} {B g o n c k : Nat} {xs : List Value} (h : Reads w B (.slice (some ⟨g, o, none⟩) n c) xs) (hk : k ≤ n) : Reads w B (.slice (some ⟨g, o, none⟩) k c) (xs.take k) := by
  obtain ⟨A, n', c', e, hl, hc, hm, hat⟩ := h
  injection e with e1 e2 e3
  subst e1 e2 e3
  refine ⟨_, _, _, rfl, by rw [List.length_take]; omega, by omega, hm, fun hn => ?_⟩
  obtain ⟨g', o', e, hg, hx⟩ := hat.out (by omega)
  injection e with e
  injection e with e1 e2
  subst e1 e2
  refine ⟨_, _, rfl, hg, fun j u hu => hx j u ?_⟩
  rw [List.getElem?_take] at hu
  split at hu
  · exact hu
  · cases hu
theorem Reads.others {w : World} {B g o n c k : Nat} {xs : List Value} (h : Reads w B (.slice (some ⟨g, o, none⟩) n c) xs) (hk : k ≤ n) (o' : Nat) (ho : k < c → o' = o + k) : Reads w B (.slice (some ⟨g, o', none⟩) (n - k) (c - k)) (xs.drop k) := by
  obtain ⟨A, n', c', e, hl, hc, hm, hat⟩ := h
  injection e with e1 e2 e3
  subst e1 e2 e3
  refine ⟨_, _, _, rfl, by rw [List.length_drop]; omega, by omega, by omega, fun hn => ?_⟩
  obtain ⟨g', o2, e, hg, hx⟩ := hat.out (by omega)
  injection e with e
  injection e with e1 e2
  subst e1 e2
  refine ⟨_, _, rfl, hg, fun j u hu => ?_⟩
  rw [ho (by omega)]
  rw [List.getElem?_drop] at hu
  have := hx (k + j) u hu
  rw [← Nat.add_assoc] at this
  exact this

theorem took_fin (T : TypeId) (w : World) (p g o : Nat) (c : Nat) (bs : List UInt8) (n : Nat) (h : Rd T w p (some ⟨g, o, none⟩) c bs 0) (h0 : 0 < n) (hx : n ≤ bs.length) (w1 : World) (A1 : Option Addr) (c1 o' : Nat) (ho' : n < c → o' = o + n)
    (hown : w1.ownsRow w.heap.size 5 1 (.slice A1 (bs.take n).length c1) (bs.take n).length (bytesV (bs.take n))) (hb1 : Below w.heap.size w w1) :
    Took T w p (some ⟨g, o, none⟩) (bs.take n) (bs.drop n) 0 (.returned (.slice A1 (bs.take n).length c1)) (w1.setCell ⟨p, 0, none⟩ (.slice (some ⟨g, o', none⟩) (bs.length - n) (c - n))) := by
  have hps := h.blk.lt
  have hgp : g ≠ p := h.ne.out (by omega) _ rfl
  have hld : (bs.drop n).length = bs.length - n := List.length_drop
  have HLD := Lib.hid hld
  clear hld
  have hbk := (h.blk.below hb1 hps).put 0 (.slice (some ⟨g, o', none⟩) (bs.length - n) (c - n))
  have hoff1 : Off (fun i => i = p) w1 (w1.setCell ⟨p, 0, none⟩ (.slice (some ⟨g, o', none⟩) (bs.length - n) (c - n))) := (Off.refl (fun i => i = p) w1).setCell (p := ⟨p, 0, none⟩) (.inl rfl) _
  have hoff : Off (fun i => i = p) w (w1.setCell ⟨p, 0, none⟩ (.slice (some ⟨g, o', none⟩) (bs.length - n) (c - n))) :=
    (Off.of_below (S := fun i => i = p) hb1 (fun i hi => .inr hi)).trans hoff1 (fun i hi => .inl hi)
  refine ⟨A1, c1, some ⟨g, o', none⟩, c - n, rfl, own_off hown hoff1 (fun k hk he => ?_), ⟨?_, ?_, ?_⟩, ?_, hoff⟩
  · have := (hown.lt k hk).1; omega
  · rw [HLD.out]; exact hbk
  · rw [HLD.out]
    have h2 := h.rd.others (k := n) hx o' ho'
    rw [bytesV_drop] at h2
    obtain ⟨A', n', c', e', hl, hc, hm, hat⟩ := h2
    injection e' with e1 e2 e3
    subst e1 e2 e3
    refine ⟨_, _, _, rfl, hl, hc, hm, fun hn => ?_⟩
    obtain ⟨g2, o2, e, hg, hx⟩ := hat.out hn
    injection e with e
    injection e with e1 e2
    subst e1 e2
    exact ⟨_, _, rfl, by have := hoff.size; omega, fun j u hu => (hoff.cell (p := ⟨g, o' + j, none⟩) hg hgp).trans (hx j u hu)⟩
  · refine Lib.hid (fun _ a ha => ?_)
    injection ha with ha
    subst ha
    exact hgp
  · intro a ha
    injection ha with ha
    subst ha
    exact ⟨_, rfl, rfl⟩

set_option maxRecDepth 100000 in
theorem take_some (w : World) (p : Nat) (A : Option Addr) (c : Nat) (bs : List UInt8) (n : Nat) (h : Rd 97 w p A c bs 0) (h0 : 0 < n) (hx : n ≤ bs.length) (hl : bs.length ≤ 140737488355328) :
    Calls Try.prog 56 #[.pointer (some ⟨p, 0, none⟩), .int .i64 n] w (Took 97 w p A (bs.take n) (bs.drop n) 0) := by
  have hc0 : w.cell? ⟨p, 0, none⟩ = some (.slice A bs.length c) := h.blk.cell 0
  have hc1 : w.cell? ⟨p, 1, none⟩ = some (.int .i64 0) := h.blk.cell 1
  have hps := h.blk.lt
  obtain ⟨g, o, rfl⟩ : ∃ g o, A = some ⟨g, o, none⟩ := by
    obtain ⟨A', n', c', e', hl, hc, hm, hat⟩ := h.rd
    injection e' with e1 e2 e3
    subst e1 e2 e3
    obtain ⟨g, o, rfl, _⟩ := hat.out (by omega)
    exact ⟨g, o, rfl⟩
  have hgp : g ≠ p := h.ne.out (by omega) _ rfl
  have hcap : bs.length ≤ c ∧ c ≤ maxLen := by
    obtain ⟨A', n', c', e', hl, hc, hm, hat⟩ := h.rd
    injection e' with e1 e2 e3
    subst e1 e2 e3
    exact ⟨hc, hm⟩
  obtain ⟨hcap, hcm⟩ := hcap
  unfold maxLen at hcm
  have hr1 := h.rd.firsts (k := n) hx
  rw [bytesV_take] at hr1
  have t1 : decide (n = 0) = false := by simp; omega
  have t2 : decide (bs.length < n) = false := by simp; omega
  have hlt : (bs.take n).length = n := by rw [List.length_take]; omega
  have hld : (bs.drop n).length = bs.length - n := List.length_drop
  have HLT := Lib.hid hlt
  have HLD := Lib.hid hld
  clear hlt hld
  have fin := fun w1 A1 c1 o' ho' hown hb1 => took_fin 97 w p g o c bs n h h0 hx w1 A1 c1 o' ho' hown hb1
  have FIN := Lib.hid fin
  clear fin
  by_cases hcn : c = n
  · subst hcn
    go_enter Try.func56, Try.ntmps56
    go_wp2_with fail
    refine (clone_any w w.heap.size _ (bs.take c) hr1 (Nat.le_refl _) (by rw [HLT.out]; omega)).mono ?_
    rintro e w1 ⟨A1, c1, rfl, hown, hb1⟩
    have hbk := h.blk.below hb1 hps
    have hc2 : w1.cell? ⟨p, 0, none⟩ = some (.slice (some ⟨g, o, none⟩) bs.length c) := hbk.cell 0
    have hf2 := hbk.free 0
    have HQ := Lib.hid (FIN.out w1 A1 c1 o (by omega) hown hb1)
    clear hown hb1 hbk
    go_wp2_with fail
    go_ret
    have h2 := HQ.out
    rw [Nat.sub_self, HLT.out, show bs.length - c = 0 from by omega] at h2
    exact h2
  · have hcn2 : decide (c = n) = false := by simpa using hcn
    go_enter Try.func56, Try.ntmps56
    go_wp2_with fail
    refine (clone_any w w.heap.size _ (bs.take n) hr1 (Nat.le_refl _) (by rw [HLT.out]; omega)).mono ?_
    rintro e w1 ⟨A1, c1, rfl, hown, hb1⟩
    have hbk := h.blk.below hb1 hps
    have hc2 : w1.cell? ⟨p, 0, none⟩ = some (.slice (some ⟨g, o, none⟩) bs.length c) := hbk.cell 0
    have hf2 := hbk.free 0
    have HQ := Lib.hid (FIN.out w1 A1 c1 (o + n) (fun _ => rfl) hown hb1)
    clear hown hb1 hbk
    go_wp2_with fail
    go_ret
    have h2 := HQ.out
    rw [HLT.out] at h2
    exact h2
end Go.Proofs.Ytjddplddpdcmdaa
