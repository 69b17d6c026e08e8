/- Two slots on a disk, plain. -/
import Derived.Test.YtjddplddpdcmdaaOctetPlain
import Derived.Test.YtjddplddpdcmdaaJrCrcP
import Derived.Test.YtjddplddpdcmdaaSecUp
namespace Go.Proofs.Ytjddplddpdcmdaa
set_option linter.unusedVariables false
set_option linter.unusedSimpArgs false

def headCore (gen : Nat) (b : List UInt8) : List UInt8 := (([112, 100, 103, 113] ++ beB gen 4) ++ beB b.length 4) ++ beB (crcN b) 4
def headB (gen : Nat) (b : List UInt8) : List UInt8 := (headCore gen b ++ beB (crcN (headCore gen b)) 4) ++ List.replicate 44 0
theorem headCore_len (gen : Nat) (b : List UInt8) : (headCore gen b).length = 16 := by simp [headCore, length_beB]
theorem headB_len (gen : Nat) (b : List UInt8) : (headB gen b).length = 64 := by simp [headB, headCore_len, length_beB]
def secsN (n : Nat) : Nat := (n + 63) / 64
/-- the journal -/
structure Jr where
  half : Nat
  slot : Nat
  gen : Nat
  last : List UInt8
  broken : Bool
instance : Inhabited Jr := ⟨⟨0, 0, 0, [], false⟩⟩
/-- the sectors of a slot one by one behind its head -/
def gatherJ (s : Dk) (from_ : Nat) (n : Nat) : List UInt8 := ((List.range n).map fun i => s.now.getD (from_ + 1 + i) []).flatten
/-- what is in a slot -/
def readJ (s : Dk) (half slot : Nat) : List UInt8 × Nat :=
  let h := s.now.getD (slot * half) []
  let gen := deB ((h.drop 4).take 4)
  let n := deB ((h.drop 8).take 4)
  if gen = 0 ∨ (half - 1) * 64 < n then ([], 0)
  else
    let b := (gatherJ s (slot * half) (secsN n)).take n
    if h = headB gen b then (b, gen) else ([], 0)
def stepJ (j : Jr) (slot : Nat) (r : List UInt8 × Nat) : Jr := if j.gen < r.2 then { j with slot := slot, gen := r.2, last := r.1 } else j
def freshJ (s : Dk) : Jr := ⟨s.now.length / 2, 1, 0, [], false⟩
def foundJ (s : Dk) : Jr := stepJ (stepJ (freshJ s) 0 (readJ s (s.now.length / 2) 0)) 1 (readJ s (s.now.length / 2) 1)
/-- opening: the disk behind it, the error, the journal -/
def openJ (s : Dk) : Dk × Int × Jr :=
  if s.now.length < 4 then (s, 1, foundJ s) else if s.down = true then (s, 9, foundJ s) else (s.flush.1, s.flush.2, foundJ s)
def padJ (b : List UInt8) : List UInt8 := b ++ List.replicate (secsN b.length * 64 - b.length) 0
def chunkJ (b : List UInt8) (i : Nat) : List UInt8 := ((padJ b).drop (i * 64)).take 64
/-- the sectors written; the first error -/
def putsJ (b : List UInt8) (from_ : Nat) : Nat → Nat → Dk → Dk × Int
  | 0, _, s => (s, 0)
  | k + 1, i, s => if (s.write ((from_ + 1 + i : Nat) : Int) (chunkJ b i)).2 ≠ 0 then s.write ((from_ + 1 + i : Nat) : Int) (chunkJ b i) else putsJ b from_ k (i + 1) (s.write ((from_ + 1 + i : Nat) : Int) (chunkJ b i)).1
def thenJ (r : Dk × Int) (f : Dk → Dk × Int) : Dk × Int := if r.2 ≠ 0 then r else f r.1
def writeJ (s : Dk) (half slot gen : Nat) (b : List UInt8) : Dk × Int :=
  thenJ (thenJ (thenJ (putsJ b (slot * half) (secsN b.length) 0 s) Dk.flush) (fun s => s.write ((slot * half : Nat) : Int) (headB gen b))) Dk.flush
def roomJ (j : Jr) : Nat := (j.half - 1) * 64
def commitJ (j : Jr) (s : Dk) (b : List UInt8) : Jr × Dk × Int :=
  if j.broken = true then (j, s, 11)
  else if roomJ j < b.length ∨ j.gen = 4294967295 then (j, s, 8)
  else
    let r := writeJ s j.half (1 - j.slot) (j.gen + 1) b
    if r.2 ≠ 0 then ({ j with broken := true }, r.1, r.2) else ({ j with slot := 1 - j.slot, gen := j.gen + 1, last := b }, r.1, 0)
/-- what holds of a journal of a disk of so many sectors -/
structure Jr.Ok (j : Jr) (n : Nat) : Prop where
  half : j.half = n / 2
  four : 4 ≤ n
  most : n ≤ 4096
  slot : j.slot ≤ 1
  gen : j.gen ≤ 4294967295
  last : j.last.length ≤ (j.half - 1) * 64
def sectorsJ (n : Int) : Int := if n < 0 ∨ 1048576 < n then 0 else 2 * (1 + (n + 63) / 64)
end Go.Proofs.Ytjddplddpdcmdaa
