/- What codec.Decode reads; a codec's reader in memory. -/
import Derived.Test.YtcjpibdgnjncmaaCodEncP
namespace Go.Proofs.Ytcjpibdgnjncmaa
open Go.RowKit
set_option linter.unusedVariables false
set_option linter.unusedSimpArgs false

/-- a reader's state: what is left, the error -/
abbrev RdV := List UInt8 × Int
def rdt (s : RdV) (n : Int) : List UInt8 := takeOut s.1 s.2 n
def rds (s : RdV) (n : Int) : RdV := (takeLeft s.1 s.2 n, takeErr s.1 s.2 n)
theorem rds_len (s : RdV) (n : Int) : (rds s n).1.length ≤ s.1.length := takeLeft_le _ _ _
def i8s (bs : List UInt8) : List Int := bs.map (fun x => IntKind.i8.wrap (x.toNat : Int))
/-- a codec's reader: its error, its reader -/
structure CS where
  e : Int
  s : RdV
def chk (z : CS) (ok : Bool) : CS := ⟨if z.e ≠ 0 then z.e else if endErr z.s.1 z.s.2 = 4 then 4 else if ok = true then 0 else 5, z.s⟩
structure TD where
  z : CS
  e : Int
  x : List Int
def decT (z : CS) (d : List Int) : TD :=
  ⟨chk ⟨z.e, rds (rds z.s 1) (sizeI d)⟩ (mayB d (IntKind.i8.wrap (deB (rdt z.s 1) : Int)) (i8s (rdt (rds z.s 1) (sizeI d)))), IntKind.i8.wrap (deB (rdt z.s 1) : Int), i8s (rdt (rds z.s 1) (sizeI d))⟩
def num2 (l : List UInt8) : Int := (deB l : Int)
def num4 (l : List UInt8) : Int := IntKind.i32.wrap (deB l : Int)
def rdRun (k : Nat) (f : List UInt8 → Int) : Nat → List Int × RdV → List Int × RdV
  | 0, z => z
  | n + 1, z => rdRun k f n (z.1 ++ [f (rdt z.2 k)], rds z.2 k)
structure PD where
  z : CS
  p : ParC
def decP6 (r : List Int) (t : TD) (q : List Int) (z5 : CS) (b : Int) : PD :=
  if z5.e ≠ 0 then ⟨z5, zeroC⟩ else ⟨(decT z5 [b]).z, ⟨r, t.e, t.x, q, [b], (decT z5 [b]).e, (decT z5 [b]).x⟩⟩
def decP5 (r : List Int) (t : TD) (q : List Int) (z4 : CS) : PD :=
  if z4.e ≠ 0 then ⟨z4, zeroC⟩ else decP6 r t q (chk ⟨z4.e, rds z4.s 2⟩ (decide (0 < sizeI [num2 (rdt z4.s 2)]))) (num2 (rdt z4.s 2))
def decP4 (r : List Int) (t : TD) : PD :=
  if t.z.e ≠ 0 then ⟨t.z, zeroC⟩ else
    decP5 r t (rdRun 4 num4 t.x.length ([], t.z.s)).1 (chk ⟨t.z.e, (rdRun 4 num4 t.x.length ([], t.z.s)).2⟩ (movesB { zeroC with wx := t.x, m := (rdRun 4 num4 t.x.length ([], t.z.s)).1 }))
def decP3 (z2 : CS) (r : List Int) : PD := if z2.e ≠ 0 then ⟨z2, zeroC⟩ else decP4 r (decT z2 r)
def decP2 (z1 : CS) (n : Nat) : PD :=
  if z1.e ≠ 0 ∨ n = 0 then ⟨z1, zeroC⟩ else
    decP3 (chk ⟨z1.e, (rdRun 2 num2 n ([], z1.s)).2⟩ (decide (0 < sizeI (rdRun 2 num2 n ([], z1.s)).1))) (rdRun 2 num2 n ([], z1.s)).1
def decP (z : CS) : PD := decP2 (chk ⟨z.e, rds z.s 1⟩ (decide (deB (rdt z.s 1) ≤ 4))) (deB (rdt z.s 1))
structure DSt where
  z : CS
  ps : List ParC
def decStep (d : DSt) : DSt := ⟨(decP d.z).z, d.ps ++ [(decP d.z).p]⟩
def decRun : Nat → DSt → DSt
  | 0, d => d
  | n + 1, d => if d.z.e = 0 then decRun n (decStep d) else d
def beginB : List UInt8 := [112, 100, 115, 116]
structure DHead where
  z : CS
  seed : Nat
  step : Nat
  n : Nat
def decHead (bs : List UInt8) : DHead :=
  let z1 := chk ⟨0, rds (bs, 0) 4⟩ (rdt (bs, 0) 4 == beginB)
  let s2 := rds z1.s 8
  let s3 := rds s2 4
  let z3 := chk ⟨z1.e, s3⟩ (decide (deB (rdt s2 4) ≤ 1000000))
  let z4 := chk ⟨z3.e, rds z3.s 1⟩ (decide (deB (rdt z3.s 1) ≤ 12))
  ⟨z4, deB (rdt z1.s 8), deB (rdt s2 4), deB (rdt z3.s 1)⟩
def decFin (bs : List UInt8) : DSt := decRun (decHead bs).n ⟨(decHead bs).z, []⟩
def decEnd (d : DSt) : Int := if d.z.e = 0 then endErr d.z.s.1 d.z.s.2 else d.z.e
/-- what is told: the error; the numbers; the params -/
def decode (bs : List UInt8) : Int × Int × Int × List ParC :=
  if decEnd (decFin bs) = 0 then (0, (decHead bs).seed, (decHead bs).step, (decFin bs).ps) else (decEnd (decFin bs), 0, 0, [])
theorem chk_s (z : CS) (ok : Bool) : (chk z ok).s = z.s := rfl
theorem decRun_ne {d : DSt} (he : d.z.e ≠ 0) : ∀ n, decRun n d = d
  | 0 => rfl
  | n + 1 => by rw [decRun, if_neg he]
theorem deB_u8 (s : RdV) : deB (rdt s 1) < 256 := by
  have := deB_256 s.1 s.2 1
  unfold rdt
  simpa using this
theorem deB_u16 (s : RdV) : deB (rdt s 2) < 65536 := by
  have := deB_256 s.1 s.2 2
  unfold rdt
  simpa using this
theorem deB_u32 (s : RdV) : deB (rdt s 4) < 4294967296 := by
  have := deB_256 s.1 s.2 4
  unfold rdt
  simpa using this
theorem deB_u64 (s : RdV) : deB (rdt s 8) < 18446744073709551616 := by
  have := deB_256 s.1 s.2 8
  unfold rdt
  simpa using this
theorem rdRun_len (k : Nat) (f : List UInt8 → Int) : ∀ (n : Nat) (z : List Int × RdV), (rdRun k f n z).1.length = z.1.length + n ∧ (rdRun k f n z).2.1.length ≤ z.2.1.length
  | 0, z => ⟨rfl, Nat.le_refl _⟩
  | n + 1, z => by
    have h := rdRun_len k f n (z.1 ++ [f (rdt z.2 k)], rds z.2 k)
    rw [rdRun]
    refine ⟨?_, Nat.le_trans h.2 (rds_len _ _)⟩
    rw [h.1, List.length_append, List.length_singleton]
    omega
theorem i8s_in (l : List UInt8) : ∀ x ∈ i8s l, -128 ≤ x ∧ x ≤ 127 := by
  intro x hx
  unfold i8s at hx
  obtain ⟨b, _, rfl⟩ := List.mem_map.1 hx
  unfold IntKind.wrap
  simp only [IntKind.bits, IntKind.signed]
  simp
  omega
theorem i8_in (n : Int) : -128 ≤ IntKind.i8.wrap n ∧ IntKind.i8.wrap n ≤ 127 := by
  unfold IntKind.wrap
  simp only [IntKind.bits, IntKind.signed]
  simp
  omega
theorem i32_in (n : Int) : -2147483648 ≤ IntKind.i32.wrap n ∧ IntKind.i32.wrap n ≤ 2147483647 := by
  unfold IntKind.wrap
  simp only [IntKind.bits, IntKind.signed]
  simp
  omega
/-- the codec's reader at q, its octet.Reader at p -/
structure CR (w : World) (q p : Nat) (A : Option Addr) (c : Nat) (z : CS) : Prop where
  blk : Blk w q 55 [.pointer (some ⟨p, 0, none⟩), .int .i64 z.e]
  rd : Rd 84 w p A c z.s.1 z.s.2
  ne : q ≠ p
  lA : Hid (0 < z.s.1.length → ∀ a, A = some a → a.block ≠ q)
  len : z.s.1.length ≤ 140737488351232
/-- the reader's bytes lie where they lay -/
def SameA (A A' : Option Addr) : Prop := ∀ a, A' = some a → ∃ b, A = some b ∧ b.block = a.block
theorem SameA.refl (A : Option Addr) : SameA A A := fun a h => ⟨a, h, rfl⟩
theorem SameA.trans {A A' A'' : Option Addr} (h : SameA A A') (k : SameA A' A'') : SameA A A'' := fun a h2 => by
  obtain ⟨b, hb, e⟩ := k a h2
  obtain ⟨d, hd, e'⟩ := h b hb
  exact ⟨d, hd, e'.trans e⟩
section
variable {w w' : World} {q p : Nat} {A A' : Option Addr} {c c' : Nat} {z z' : CS} {s' : RdV}
theorem CR.lt (h : CR w q p A c z) : q < w.heap.size ∧ p < w.heap.size := ⟨h.blk.lt, h.rd.blk.lt⟩
theorem CR.alt (h : CR w q p A c z) (h0 : 0 < z.s.1.length) (a : Addr) (ha : A = some a) : a.block < w.heap.size := by
  obtain ⟨A9, n9, c9, e9, l9, _, _, at9⟩ := h.rd.rd
  rw [length_bytesV] at l9
  injection e9 with e1 e2 e3
  obtain ⟨g, o, hA9, hg, _⟩ := at9.out (by omega)
  rw [← e1, ha] at hA9
  injection hA9 with hA9
  subst hA9
  exact hg
theorem CR.off {S : Nat → Prop} (h : CR w q p A c z) (ho : Off S w w') (hS : ∀ i, S i → w.heap.size ≤ i) : CR w' q p A c z := by
  have hn : ∀ i, i < w.heap.size → ¬ S i := fun i hi hs => by have := hS i hs; omega
  exact ⟨h.blk.off ho (hn q h.lt.1), h.rd.off ho (hn p h.lt.2) (fun h0 a ha => hn _ (h.alt h0 a ha)), h.ne, h.lA, h.len⟩
theorem CR.offA {S : Nat → Prop} (h : CR w q p A c z) (ho : Off S w w') (hq : ¬ S q) (hp : ¬ S p) (hA : 0 < z.s.1.length → ∀ a, A = some a → ¬ S a.block) : CR w' q p A c z :=
  ⟨h.blk.off ho hq, h.rd.off ho hp hA, h.ne, h.lA, h.len⟩
theorem CR.below (h : CR w q p A c z) (hb : Below w.heap.size w w') : CR w' q p A c z :=
  h.off (S := fun i => w.heap.size ≤ i) (Off.of_below hb (fun i hi => .inl hi)) (fun i hi => hi)
theorem CR.read (h : CR w q p A c z) (hr : Rd 84 w' p A' c' s'.1 s'.2) (hA : SameA A A') (ho : Off (fun i => i = p) w w') (hl : s'.1.length ≤ z.s.1.length) : CR w' q p A' c' ⟨z.e, s'⟩ := by
  refine ⟨h.blk.off ho h.ne, hr, h.ne, Lib.hid (fun h0 a ha => ?_), Nat.le_trans hl h.len⟩
  obtain ⟨b, hb, e⟩ := hA a ha
  rw [← e]
  exact h.lA.out (by simp only at h0; omega) b hb
theorem CR.put (h : CR w q p A c z) (e : Int) : CR (w.setCell ⟨q, 1, none⟩ (.int .i64 e)) q p A c ⟨e, z.s⟩ := by
  have ho : Off (fun i => i = q) w (w.setCell ⟨q, 1, none⟩ (.int .i64 e)) := (Off.refl (fun i => i = q) w).setCell (p := ⟨q, 1, none⟩) (.inl rfl) _
  exact ⟨h.blk.put 1 _, h.rd.off ho (Ne.symm h.ne) (fun h0 a ha => h.lA.out h0 a ha), h.ne, h.lA, h.len⟩
end
end Go.Proofs.Ytcjpibdgnjncmaa
