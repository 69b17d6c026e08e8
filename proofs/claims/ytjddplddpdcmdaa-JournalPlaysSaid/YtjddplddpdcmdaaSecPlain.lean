/- A disk that may lose what was not flushed: plain. -/
namespace Go.Proofs.Ytjddplddpdcmdaa
set_option linter.unusedVariables false
set_option linter.unusedSimpArgs false

structure Dk where
  now : List (List UInt8)
  sure : List (List UInt8)
  log : List (Nat × List UInt8)
  ops : Int
  fuse : Int
  down : Bool
instance : Inhabited Dk := ⟨⟨[], [], [], 0, 0, false⟩⟩
/-- what holds of a disk at each time -/
structure Dk.Ok (s : Dk) : Prop where
  len : s.sure.length = s.now.length
  most : s.now.length ≤ 4096
  now : ∀ b ∈ s.now, b.length = 64
  sure : ∀ b ∈ s.sure, b.length = 64
  log : ∀ e ∈ s.log, e.1 < s.now.length ∧ e.2.length = 64
  ops0 : 0 ≤ s.ops
  logs : (s.log.length : Int) ≤ s.ops
def Dk.new (n : Nat) : Dk := ⟨List.replicate n (List.replicate 64 0), List.replicate n (List.replicate 64 0), [], 0, 0, false⟩
theorem Dk.new_ok {n : Nat} (h : n ≤ 4096) : (Dk.new n).Ok where
  len := by simp [Dk.new]
  most := by simpa [Dk.new] using h
  now := fun b hb => by simp [Dk.new] at hb; simp [hb.2]
  sure := fun b hb => by simp [Dk.new] at hb; simp [hb.2]
  log := fun e he => by simp [Dk.new] at he
  ops0 := by simp [Dk.new]
  logs := by simp [Dk.new]
def Dk.hasI (s : Dk) (i : Int) : Bool := decide (0 ≤ i) && decide (i < (s.now.length : Int))
theorem Dk.hasI_nat {s : Dk} {i : Int} (h : s.hasI i = true) : ∃ k : Nat, i = k ∧ k < s.now.length := by
  unfold Dk.hasI at h
  simp at h
  exact ⟨i.toNat, by omega, by omega⟩
/-- one more operation -/
def Dk.oper (s : Dk) : Dk := { s with ops := s.ops + 1, down := s.down || (s.ops + 1 == s.fuse) }
theorem Dk.oper_ok {s : Dk} (h : s.Ok) : s.oper.Ok := ⟨h.len, h.most, h.now, h.sure, h.log, by have := h.ops0; simp [Dk.oper]; omega, by have := h.logs; simp [Dk.oper]; omega⟩
def Dk.wrote (s : Dk) (i : Nat) (b : List UInt8) : Dk := { s with now := s.now.set i b, log := s.log ++ [(i, b)] }
def Dk.write (s : Dk) (i : Int) (b : List UInt8) : Dk × Int :=
  if s.hasI i = true ∧ b.length = 64 then (if s.oper.down = true then (s.oper, 9) else (s.oper.wrote i.toNat b, 0)) else (s, 1)
theorem Dk.wrote_ok {s : Dk} (h : s.Ok) {i : Nat} (hi : i < s.now.length) {b : List UInt8} (hb : b.length = 64) : (s.oper.wrote i b).Ok where
  len := by simp [Dk.wrote, Dk.oper, h.len]
  most := by simpa [Dk.wrote, Dk.oper] using h.most
  now := fun x hx => by
    rcases List.mem_or_eq_of_mem_set hx with h1 | h1
    · exact h.now x h1
    · rw [h1]; exact hb
  sure := h.sure
  log := fun e he => by
    simp [Dk.wrote, Dk.oper] at he ⊢
    rcases he with he | he
    · exact h.log e he
    · subst he; exact ⟨hi, hb⟩
  ops0 := by have := h.ops0; simp [Dk.wrote, Dk.oper]; omega
  logs := by have := h.logs; simp [Dk.wrote, Dk.oper]; omega
def Dk.flushed (s : Dk) : Dk := { s with sure := s.now, log := [] }
def Dk.flush (s : Dk) : Dk × Int := if s.oper.down = true then (s.oper, 9) else (s.oper.flushed, 0)
theorem Dk.flushed_ok {s : Dk} (h : s.Ok) : s.oper.flushed.Ok := ⟨rfl, h.most, h.now, h.now, fun e he => by simp [Dk.flushed] at he, by have := h.ops0; simp [Dk.flushed, Dk.oper]; omega, by have := h.ops0; simp [Dk.flushed, Dk.oper]; omega⟩
/-- what a crash does to one write -/
def pickI (p : Nat) (i : Nat) (b : List UInt8) (sure : List (List UInt8)) : List (List UInt8) :=
  if p % 4 = 2 then sure.set i b else if p % 4 = 3 then sure.set i (b.take 32 ++ (sure.getD i []).drop 32) else sure
def crashI : List (Nat × List UInt8) → List UInt8 → List (List UInt8) → List (List UInt8)
  | [], _, sure => sure
  | e :: r, [], sure => crashI r [] (pickI 0 e.1 e.2 sure)
  | e :: r, x :: l, sure => crashI r l (pickI x.toNat e.1 e.2 sure)
def Dk.crash (s : Dk) (l : List UInt8) : Dk := ⟨crashI s.log l s.sure, crashI s.log l s.sure, [], s.ops, 0, false⟩
theorem pickI_ok {p i n : Nat} {b : List UInt8} {sure : List (List UInt8)} (hi : i < n) (hb : b.length = 64) (h : sure.length = n ∧ ∀ x ∈ sure, x.length = 64) : (pickI p i b sure).length = n ∧ ∀ x ∈ pickI p i b sure, x.length = 64 := by
  unfold pickI
  have hg : (sure.getD i []).length = 64 := by
    rw [List.getD_eq_getElem?_getD, List.getElem?_eq_getElem (by omega)]
    exact h.2 _ (List.getElem_mem _)
  split
  · exact ⟨by simp [h.1], fun x hx => by
      rcases List.mem_or_eq_of_mem_set hx with h1 | h1
      · exact h.2 x h1
      · rw [h1]; exact hb⟩
  · split
    · exact ⟨by simp [h.1], fun x hx => by
        rcases List.mem_or_eq_of_mem_set hx with h1 | h1
        · exact h.2 x h1
        · rw [h1, List.length_append, List.length_take, List.length_drop, hb, hg]; rfl⟩
    · exact h
theorem crashI_ok {n : Nat} : ∀ (log : List (Nat × List UInt8)) (l : List UInt8) (sure : List (List UInt8)), (∀ e ∈ log, e.1 < n ∧ e.2.length = 64) → (sure.length = n ∧ ∀ x ∈ sure, x.length = 64) → (crashI log l sure).length = n ∧ ∀ x ∈ crashI log l sure, x.length = 64
  | [], _, sure, _, h => h
  | e :: r, [], sure, hl, h => crashI_ok r [] _ (fun x hx => hl x (by simp [hx])) (pickI_ok (hl e (by simp)).1 (hl e (by simp)).2 h)
  | e :: r, x :: l, sure, hl, h => crashI_ok r l _ (fun x hx => hl x (by simp [hx])) (pickI_ok (hl e (by simp)).1 (hl e (by simp)).2 h)
theorem Dk.crash_ok {s : Dk} (h : s.Ok) (l : List UInt8) : (s.crash l).Ok := by
  have := crashI_ok s.log l s.sure h.log ⟨h.len, h.sure⟩
  exact ⟨rfl, by simp only [Dk.crash]; rw [this.1]; exact h.most, this.2, this.2, fun e he => by simp [Dk.crash] at he, h.ops0, by have := h.ops0; simpa [Dk.crash] using this⟩
def Dk.fused (s : Dk) (n : Int) : Dk := { s with down := false, fuse := if 0 < n ∧ n ≤ 4611686018427387904 - s.ops then s.ops + n else 0 }
theorem Dk.fused_ok {s : Dk} (h : s.Ok) (n : Int) : (s.fused n).Ok := ⟨h.len, h.most, h.now, h.sure, h.log, h.ops0, h.logs⟩
def Dk.read (s : Dk) (i : Int) : List UInt8 × Int := if s.hasI i = true then (if s.down = true then ([], 9) else (s.now.getD i.toNat [], 0)) else ([], 1)
end Go.Proofs.Ytjddplddpdcmdaa
