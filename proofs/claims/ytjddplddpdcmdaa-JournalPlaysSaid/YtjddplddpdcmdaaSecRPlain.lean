/- The reference's disk, plain; it and the program's go on alike. -/
import Derived.Test.YtjddplddpdcmdaaSecPlain
namespace Go.Proofs.Ytjddplddpdcmdaa
set_option linter.unusedVariables false
set_option linter.unusedSimpArgs false

structure Rk where
  sure : List (List UInt8)
  log : List (Nat × List UInt8)
  n : Int
  fuse : Int
  down : Bool
instance : Inhabited Rk := ⟨⟨[], [], 0, 0, false⟩⟩
structure Rk.Ok (r : Rk) : Prop where
  most : r.sure.length ≤ 4096
  sure : ∀ b ∈ r.sure, b.length = 64
  log : ∀ e ∈ r.log, e.1 < r.sure.length ∧ e.2.length = 64
  n0 : 0 ≤ r.n
  logs : (r.log.length : Int) ≤ r.n
  fuse0 : 0 ≤ r.fuse ∧ r.fuse ≤ 9223372036854775807
def Rk.new (m : Nat) : Rk := ⟨List.replicate m (List.replicate 64 0), [], 0, 0, false⟩
theorem Rk.new_ok {m : Nat} (h : m ≤ 4096) : (Rk.new m).Ok where
  most := by simpa [Rk.new] using h
  sure := fun b hb => by simp [Rk.new] at hb; simp [hb.2]
  log := fun e he => by simp [Rk.new] at he
  n0 := by simp [Rk.new]
  logs := by simp [Rk.new]
  fuse0 := by simp [Rk.new]
def Rk.hasI (r : Rk) (i : Int) : Bool := decide (0 ≤ i) && decide (i < (r.sure.length : Int))
def Rk.op (r : Rk) : Rk := { r with n := r.n + 1, fuse := if 0 < r.fuse then r.fuse - 1 else r.fuse, down := r.down || (decide (0 < r.fuse) && (r.fuse - 1 == 0)) }
theorem Rk.op_ok {r : Rk} (h : r.Ok) : r.op.Ok := ⟨h.most, h.sure, h.log, by have := h.n0; simp [Rk.op]; omega, by have := h.logs; simp [Rk.op]; omega, by have := h.fuse0; simp only [Rk.op]; split <;> omega⟩
def Rk.wrote (r : Rk) (i : Nat) (b : List UInt8) : Rk := { r with log := r.log ++ [(i, b)] }
def Rk.write (r : Rk) (i : Int) (b : List UInt8) : Rk × Int :=
  if r.hasI i = true ∧ b.length = 64 then (if r.op.down = true then (r.op, 9) else (r.op.wrote i.toNat b, 0)) else (r, 1)
theorem Rk.hasI_nat {r : Rk} {i : Int} (h : r.hasI i = true) : ∃ k : Nat, i = k ∧ k < r.sure.length := by
  unfold Rk.hasI at h
  simp at h
  exact ⟨i.toNat, by omega, by omega⟩
theorem Rk.wrote_ok {r : Rk} (h : r.Ok) {i : Nat} (hi : i < r.sure.length) {b : List UInt8} (hb : b.length = 64) : (r.op.wrote i b).Ok where
  most := h.most
  sure := h.sure
  log := fun e he => by
    simp [Rk.wrote, Rk.op] at he ⊢
    rcases he with he | he
    · exact h.log e he
    · subst he; exact ⟨hi, hb⟩
  n0 := by have := h.n0; simp [Rk.wrote, Rk.op]; omega
  logs := by have := h.logs; simp [Rk.wrote, Rk.op]; omega
  fuse0 := (Rk.op_ok h).fuse0
/-- the writes done -/
def applyL (log : List (Nat × List UInt8)) (sure : List (List UInt8)) : List (List UInt8) := log.foldl (fun s e => s.set e.1 e.2) sure
theorem applyL_len (log : List (Nat × List UInt8)) : ∀ sure, (applyL log sure).length = sure.length := by
  induction log with
  | nil => intro s; rfl
  | cons e r ih => intro s; show (applyL r (s.set e.1 e.2)).length = _; rw [ih]; simp
theorem applyL_all (log : List (Nat × List UInt8)) : ∀ sure : List (List UInt8), (∀ e ∈ log, e.2.length = 64) → (∀ b ∈ sure, b.length = 64) → ∀ b ∈ applyL log sure, b.length = 64 := by
  induction log with
  | nil => intro s _ h; exact h
  | cons e r ih =>
    intro s hl h
    refine ih _ (fun x hx => hl x (by simp [hx])) (fun b hb => ?_)
    rcases List.mem_or_eq_of_mem_set hb with h1 | h1
    · exact h b h1
    · rw [h1]; exact hl e (by simp)
theorem applyL_snoc (log : List (Nat × List UInt8)) (e : Nat × List UInt8) (sure : List (List UInt8)) : applyL (log ++ [e]) sure = (applyL log sure).set e.1 e.2 := by simp [applyL]
def Rk.flushed (r : Rk) : Rk := { r with sure := applyL r.log r.sure, log := [] }
def Rk.flush (r : Rk) : Rk × Int := if r.op.down = true then (r.op, 9) else (r.op.flushed, 0)
theorem Rk.flushed_ok {r : Rk} (h : r.Ok) : r.flushed.Ok where
  most := by simp only [Rk.flushed]; rw [applyL_len]; exact h.most
  sure := applyL_all _ _ (fun e he => (h.log e he).2) h.sure
  log := fun e he => by simp [Rk.flushed] at he
  n0 := h.n0
  logs := by have := h.n0; simpa [Rk.flushed] using this
  fuse0 := h.fuse0
def Rk.fused (r : Rk) (n : Int) : Rk := { r with fuse := max 0 n, down := false }
theorem Rk.fused_ok {r : Rk} (h : r.Ok) {n : Int} (hn : n ≤ 9223372036854775807) : (r.fused n).Ok := ⟨h.most, h.sure, h.log, h.n0, h.logs, by simp only [Rk.fused]; omega⟩
def Rk.crash (r : Rk) (l : List UInt8) : Rk := ⟨crashI r.log l r.sure, [], r.n, 0, false⟩
theorem Rk.crash_ok {r : Rk} (h : r.Ok) (l : List UInt8) : (r.crash l).Ok := by
  have := crashI_ok r.log l r.sure h.log ⟨rfl, h.sure⟩
  exact ⟨by simp only [Rk.crash]; rw [this.1]; exact h.most, this.2, fun e he => by simp [Rk.crash] at he, h.n0, by have := h.n0; simpa [Rk.crash] using this, by simp [Rk.crash]⟩
/-- what was written last -/
def lastL (i : Nat) : List (Nat × List UInt8) → List UInt8 → List UInt8
  | [], b => b
  | e :: r, b => lastL i r (if e.1 = i then e.2 else b)
theorem lastL_apply (i : Nat) : ∀ (log : List (Nat × List UInt8)) (sure : List (List UInt8)), (∀ e ∈ log, e.1 < sure.length) → lastL i log (sure.getD i []) = (applyL log sure).getD i []
  | [], _, _ => rfl
  | e :: r, sure, h => by
    have h1 := h e (by simp)
    show lastL i r _ = (applyL r (sure.set e.1 e.2)).getD i []
    rw [← lastL_apply i r (sure.set e.1 e.2) (fun x hx => by rw [List.length_set]; exact h x (by simp [hx]))]
    congr 1
    by_cases hi : e.1 = i
    · subst hi
      simp [List.getD_eq_getElem?_getD, h1]
    · simp [List.getD_eq_getElem?_getD, List.getElem?_set, hi]
theorem lastL_snoc (i : Nat) (e : Nat × List UInt8) : ∀ (log : List (Nat × List UInt8)) (b : List UInt8), lastL i (log ++ [e]) b = if e.1 = i then e.2 else lastL i log b
  | [], b => by simp [lastL]
  | x :: r, b => by simp only [List.cons_append, lastL]; exact lastL_snoc i e r _
def Rk.read (r : Rk) (i : Int) : List UInt8 × Int := if r.hasI i = true then (if r.down = true then ([], 9) else (lastL i.toNat r.log (r.sure.getD i.toNat []), 0)) else ([], 1)
/-- alike -/
structure Alike (s : Dk) (r : Rk) : Prop where
  ok : s.Ok
  rok : r.Ok
  now : s.now = applyL r.log r.sure
  sure : s.sure = r.sure
  log : s.log = r.log
  ops : s.ops = r.n
  down : s.down = r.down
  fuse : (0 < r.fuse ∧ s.fuse = s.ops + r.fuse) ∨ (r.fuse = 0 ∧ s.fuse ≤ s.ops) ∨ (4611686018427387904 - s.ops < r.fuse ∧ s.fuse = 0)
section
variable {s : Dk} {r : Rk}
theorem Alike.new {m : Nat} (h : m ≤ 4096) : Alike (Dk.new m) (Rk.new m) := ⟨Dk.new_ok h, Rk.new_ok h, rfl, rfl, rfl, rfl, rfl, .inr (.inl ⟨rfl, by simp [Dk.new]⟩)⟩
theorem Alike.len (h : Alike s r) : s.now.length = r.sure.length := by rw [h.now, applyL_len]
theorem Alike.has (h : Alike s r) (i : Int) : s.hasI i = r.hasI i := by unfold Dk.hasI Rk.hasI; rw [h.len]
theorem Alike.read (h : Alike s r) (i : Int) : s.read i = r.read i := by
  unfold Dk.read Rk.read
  rw [h.has, h.down]
  split
  · split
    · rfl
    · rw [lastL_apply _ _ _ (fun e he => (h.rok.log e he).1), h.now]
  · rfl
theorem Alike.oper (h : Alike s r) (ho : s.ops < 1000000000) : Alike s.oper r.op := by
  refine ⟨Dk.oper_ok h.ok, Rk.op_ok h.rok, h.now, h.sure, h.log, by simp [Dk.oper, Rk.op, h.ops], ?_, ?_⟩
  · simp only [Dk.oper, Rk.op, h.down]
    congr 1
    have h0 := h.ok.ops0
    rcases h.fuse with ⟨h1, h2⟩ | ⟨h1, h2⟩ | ⟨h1, h2⟩
    · rw [h2, decide_eq_true h1, Bool.true_and]
      by_cases h3 : r.fuse = 1
      · rw [h3]; simp
      · have e1 : (s.ops + 1 == s.ops + r.fuse) = false := by simp; omega
        have e2 : (r.fuse - 1 == 0) = false := by simp; omega
        rw [e1, e2]
    · have e1 : (s.ops + 1 == s.fuse) = false := by simp; omega
      rw [e1, h1]; simp
    · have e1 : (s.ops + 1 == s.fuse) = false := by simp; omega
      have e2 : (r.fuse - 1 == 0) = false := by simp; omega
      rw [e1, e2]; simp
  · simp only [Dk.oper, Rk.op]
    have h0 := h.ok.ops0
    rcases h.fuse with ⟨h1, h2⟩ | ⟨h1, h2⟩ | ⟨h1, h2⟩
    · rw [if_pos h1, h2]
      by_cases h3 : r.fuse = 1
      · exact .inr (.inl ⟨by omega, by omega⟩)
      · exact .inl ⟨by omega, by omega⟩
    · rw [if_neg (by omega)]; exact .inr (.inl ⟨h1, by omega⟩)
    · rw [if_pos (by omega)]; exact .inr (.inr ⟨by omega, h2⟩)
theorem Alike.write (h : Alike s r) (ho : s.ops < 1000000000) (i : Int) (b : List UInt8) : (s.write i b).2 = (r.write i b).2 ∧ Alike (s.write i b).1 (r.write i b).1 := by
  unfold Dk.write Rk.write
  rw [h.has]
  by_cases hc : r.hasI i = true ∧ b.length = 64
  · rw [if_pos hc, if_pos hc]
    have ho2 := h.oper ho
    rw [ho2.down]
    by_cases hd : r.op.down = true
    · rw [if_pos hd, if_pos hd]; exact ⟨rfl, ho2⟩
    · rw [if_neg hd, if_neg hd]
      obtain ⟨k, rfl, hk⟩ := Rk.hasI_nat hc.1
      refine ⟨rfl, Dk.wrote_ok h.ok (by rw [h.len]; exact hk) hc.2, Rk.wrote_ok h.rok hk hc.2, ?_, ho2.sure, ?_, ho2.ops, ho2.down, ho2.fuse⟩
      · show s.now.set _ _ = applyL (r.log ++ [_]) r.sure
        rw [applyL_snoc, h.now]
      · show s.log ++ _ = r.log ++ _
        rw [h.log]
  · rw [if_neg hc, if_neg hc]; exact ⟨rfl, h⟩
theorem Alike.flush (h : Alike s r) (ho : s.ops < 1000000000) : s.flush.2 = r.flush.2 ∧ Alike s.flush.1 r.flush.1 := by
  unfold Dk.flush Rk.flush
  have ho2 := h.oper ho
  rw [ho2.down]
  by_cases hd : r.op.down = true
  · rw [if_pos hd, if_pos hd]; exact ⟨rfl, ho2⟩
  · rw [if_neg hd, if_neg hd]
    exact ⟨rfl, Dk.flushed_ok h.ok, Rk.flushed_ok ho2.rok, h.now, h.now, rfl, ho2.ops, ho2.down, ho2.fuse⟩
theorem Alike.fused (h : Alike s r) (ho : s.ops < 1000000000) {n : Int} (hn : n ≤ 9223372036854775807) : Alike (s.fused n) (r.fused n) := by
  have h0 := h.ok.ops0
  refine ⟨Dk.fused_ok h.ok n, Rk.fused_ok h.rok hn, h.now, h.sure, h.log, h.ops, rfl, ?_⟩
  simp only [Dk.fused, Rk.fused]
  by_cases h1 : 0 < n
  · have e : max 0 n = n := by omega
    rw [e]
    by_cases h2 : n ≤ 4611686018427387904 - s.ops
    · rw [if_pos ⟨h1, h2⟩]; exact .inl ⟨h1, rfl⟩
    · rw [if_neg (by omega)]; exact .inr (.inr ⟨by omega, rfl⟩)
  · rw [if_neg (by omega)]; exact .inr (.inl ⟨by omega, by omega⟩)
theorem Alike.crash (h : Alike s r) (l : List UInt8) : Alike (s.crash l) (r.crash l) := by
  refine ⟨Dk.crash_ok h.ok l, Rk.crash_ok h.rok l, ?_, ?_, rfl, h.ops, rfl, .inr (.inl ⟨rfl, h.ok.ops0⟩)⟩
  · show crashI s.log l s.sure = crashI r.log l r.sure
    rw [h.log, h.sure]
  · show crashI s.log l s.sure = crashI r.log l r.sure
    rw [h.log, h.sure]
end
end Go.Proofs.Ytjddplddpdcmdaa
