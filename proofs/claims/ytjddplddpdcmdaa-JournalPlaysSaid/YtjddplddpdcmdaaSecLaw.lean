/- Contracts of pedagoguelaw5's full and Sector. -/
import Derived.Test.YtjddplddpdcmdaaSecNew
namespace Go.Proofs.Ytjddplddpdcmdaa
open Go.RowKit
set_option linter.unusedVariables false
set_option linter.unusedSimpArgs false

/-- 64 bytes of a new block -/
def Filled (w : World) (bs : List UInt8) (en : Ending) (w' : World) : Prop :=
  ∃ g, en = .returned (.slice (some ⟨g, 0, none⟩) 64 64) ∧ Blk w' g 5 (bytesV bs) ∧ bs.length = 64 ∧ w.heap.size ≤ g ∧ Below w.heap.size w w'
theorem elem_u8b : ElemOf Try.prog 31 5 (.int .u8 0) 1 := ⟨Try.underlying31, by kernel_rfl, rfl⟩
/-- copy(dst, src): bytes into a block known whole -/
theorem run_copy_bytes (w : World) (ty : TypeId) {B g n : Nat} {ds bs : List UInt8} {sv : Value} (hk : Blk w g 5 (bytesV ds)) (hn : ds.length = n) (hs : Reads w B sv (bytesV bs)) :
    ∃ w', (Builtin.copy_ #[31, 31] ty #[.slice (some ⟨g, 0, none⟩) n n, sv]).run Try.prog w = .ok (goInt (Nat.min bs.length n)) w' ∧ Blk w' g 5 (bytesV (bs.take n ++ ds.drop bs.length)) ∧ Off (fun i => i = g) w w' := by
  have hu := Try.underlying31
  have hi : (Try.prog.info? 5).map (·.size) = some 1 := by kernel_rfl
  obtain ⟨A, m, c, rfl, hm, hc, hcm, hat⟩ := hs
  rw [length_bytesV] at hm
  subst hm
  by_cases h0 : Nat.min bs.length n = 0
  · refine ⟨w, ?_, ?_, Off.refl _ _⟩
    · rw [h0]
      exact run_copyN_none w _ _ ty 5 _ _ _ _ _ _ 1 hu hi h0
    · have : bs.take n ++ ds.drop bs.length = ds := by
        rcases Nat.eq_zero_or_pos bs.length with h1 | h1
        · rw [List.eq_nil_of_length_eq_zero h1]; simp
        · have h2 : n = 0 := by
            rcases Nat.le_total bs.length n with h3 | h3
            · rw [show Nat.min bs.length n = min bs.length n from rfl, Nat.min_eq_left h3] at h0; omega
            · rw [show Nat.min bs.length n = min bs.length n from rfl, Nat.min_eq_right h3] at h0; exact h0
          subst h2
          rw [List.eq_nil_of_length_eq_zero hn]
          simp
      rw [this]
      exact hk
  · have hp : 0 < bs.length := by
      rcases Nat.eq_zero_or_pos bs.length with h1 | h1
      · rw [h1] at h0; exact absurd (Nat.zero_min n) h0
      · exact h1
    obtain ⟨g', o', rfl, hg', hx⟩ := hat.out hp
    have hml : (bytesV (bs.take n)).length = Nat.min bs.length n := by
      rw [length_bytesV, List.length_take, Nat.min_comm]
    have hle : Nat.min bs.length n ≤ n := Nat.min_le_right _ _
    refine ⟨w.setCells g 0 (bytesV (bs.take n)), run_copyN w _ _ ty 5 g 0 n n bs.length c 1 (Nat.min bs.length n) ⟨g', o', none⟩ (bytesV (bs.take n)) hu hi rfl (by rw [hml, Nat.mul_one]) (fun j v hv => ?_) (hk.there 0 _ (by rw [hml, length_bytesV]; omega)) (bytesV_one _), ?_, (Off.refl (fun i => i = g) w).setCells _ 0 (.inl rfl)⟩
    · rw [addr_add]
      refine hx j v ?_
      rw [← bytesV_take, List.getElem?_take] at hv
      split at hv
      · exact hv
      · cases hv
    · have h2 := Blk.setCells (bytesV (bs.take n)) 0 hk (by rw [hml, length_bytesV]; omega)
      rw [List.take_zero, List.nil_append, Nat.zero_add, hml, bytesV_drop, bytesV_append] at h2
      have e : ds.drop (Nat.min bs.length n) = ds.drop bs.length := by
        rcases Nat.le_total bs.length n with h3 | h3
        · rw [show Nat.min bs.length n = min bs.length n from rfl, Nat.min_eq_left h3]
        · rw [show Nat.min bs.length n = min bs.length n from rfl, Nat.min_eq_right h3, List.drop_of_length_le (by omega), List.drop_of_length_le (by omega)]
      rwa [e] at h2
theorem wpList_copy_bytes {ops : Array Oper} {rest : List Oper} {o : Oper} {a : Act} {w : World} {Q : Exit → Act → World → Prop} (hgd : o.guard = none) (d s : Operand)
    (ho : o.op = .call { callee := .builtin .copy, args := #[d, s], argTypes := #[31, 31] }) (B g n : Nat) (ds bs : List UInt8) (sv : Value) (hd : a.eval d = .slice (some ⟨g, 0, none⟩) n n) (hs : a.eval s = sv)
    (hk : Blk w g 5 (bytesV ds)) (hn : ds.length = n) (hr : Reads w B sv (bytesV bs))
    (h : ∀ w', Blk w' g 5 (bytesV (bs.take n ++ ds.drop bs.length)) → Off (fun i => i = g) w w' → wpList Try.prog ops Q rest (a.put o.dst (goInt (Nat.min bs.length n))) w') : wpList Try.prog ops Q (o :: rest) a w := by
  obtain ⟨w', hrun, h2, h3⟩ := run_copy_bytes w o.type hk hn hr
  refine wpList_plain hgd fun K hK => ?_
  unfold Oper.wp execOp
  simp only [ho, resolve, invoke, builtin, Sem.run_bind, Sem.run_pure, Result.andThen_ok, List.map_toArray, List.map_cons, List.map_nil, hd, hs, hrun]
  exact hK _ _ (h w' h2 h3)
theorem bytesV_set (bs : List UInt8) (i : Nat) (b : UInt8) : (bytesV bs).set i (.int .u8 (b.toNat : Int)) = bytesV (bs.set i b) := by simp [bytesV, List.map_set]
/-- a sector's bytes of some -/
def secI (bs : List UInt8) (x : UInt8) : List UInt8 := bs.take 64 ++ List.replicate (64 - bs.length) x
theorem secI_len (bs : List UInt8) (x : UInt8) : (secI bs x).length = 64 := by
  unfold secI
  rw [List.length_append, List.length_take, List.length_replicate]
  omega
end Go.Proofs.Ytjddplddpdcmdaa
