/- What SectorAll keeps: plain. -/
import Derived.Test.YtcgmgogkfhlgpaaSecLoopP
namespace Go.Proofs.Ytcgmgogkfhlgpaa
set_option linter.unusedVariables false

/-- all writes of a log done -/
def allI : List (Nat × List UInt8) → List (List UInt8) → List (List UInt8)
  | [], X => X
  | e :: r, X => allI r (X.set e.1 e.2)
theorem allI_snoc (e : Nat × List UInt8) : ∀ (l : List (Nat × List UInt8)) (X : List (List UInt8)), allI (l ++ [e]) X = (allI l X).set e.1 e.2
  | [], X => rfl
  | x :: l, X => by rw [List.cons_append, allI, allI, allI_snoc e l]
theorem crash_all : ∀ (l : List (Nat × List UInt8)) (X : List (List UInt8)), crashI l (List.replicate l.length 2) X = allI l X
  | [], X => rfl
  | e :: r, X => by
    rw [List.length_cons, List.replicate_succ, crashI, pickI, if_pos (by rfl), allI, crash_all r]
theorem crash_none : ∀ (l : List (Nat × List UInt8)) (X : List (List UInt8)), crashI l [] X = X
  | [], X => rfl
  | e :: r, X => by rw [crashI, pickI, if_neg (by omega), if_neg (by omega), crash_none r]
/-- d, what was flushed last (e), how many writes since -/
structure A8 (k : Nat) (s t : Dk) (n : Nat) : Prop where
  s8 : S8 k s
  t8 : S8 k t
  now : s.now = allI s.log s.sure
  sure : t.now = s.sure
  cnt : s.log.length = n
theorem A8.new : A8 0 (Dk.new 8) (Dk.new 8) 0 := ⟨S8.new, S8.new, rfl, rfl, rfl⟩
theorem A8.flush {k n : Nat} {s t : Dk} (h : A8 k s t n) : s.flush = (s.oper.flushed, 0) ∧ A8 (k + 1) s.oper.flushed s.oper.flushed 0 :=
  ⟨h.s8.flush.1, h.s8.flush.2, h.s8.flush.2, rfl, rfl, rfl⟩
theorem A8.write {k n : Nat} {s t : Dk} (h : A8 k s t n) {j : Nat} (hj : j < 8) {b : List UInt8} (hb : b.length = 64) : s.write (j : Int) b = (s.oper.wrote j b, 0) ∧ A8 (k + 1) (s.oper.wrote j b) t (n + 1) := by
  obtain ⟨e1, e2⟩ := h.s8.write hj hb
  refine ⟨e1, e2, h.t8.more (by omega), ?_, h.sure, ?_⟩
  · show s.now.set j b = allI (s.log ++ [(j, b)]) s.sure
    rw [allI_snoc, h.now]
  · show (s.log ++ [(j, b)]).length = n + 1
    rw [List.length_append, h.cnt]; rfl
theorem A8.all {k n : Nat} {s t : Dk} (h : A8 k s t n) : (s.crash (List.replicate n 2)).now = s.now := by
  show crashI s.log (List.replicate n 2) s.sure = s.now
  rw [← h.cnt, crash_all, h.now]
theorem A8.none {k n : Nat} {s t : Dk} (h : A8 k s t n) : (s.crash []).now = t.now := by
  show crashI s.log [] s.sure = t.now
  rw [crash_none, h.sure]
theorem A8.most {k n : Nat} {s t : Dk} (h : A8 k s t n) : n ≤ k := by
  have h1 := h.s8.ok.logs
  have h2 := h.s8.ops
  have h3 := h.cnt
  omega
end Go.Proofs.Ytcgmgogkfhlgpaa
