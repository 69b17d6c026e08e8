/- The reference's journal in memory; contracts of half, Room. -/
import Derived.Test.YtjddplddpdcmdaaJrMem
namespace Go.Proofs.Ytjddplddpdcmdaa
set_option linter.unusedVariables false
set_option linter.unusedSimpArgs false

theorem be_de (l : List UInt8) : beB (deB l) l.length = l := by
  obtain ⟨n, hn⟩ : ∃ n, l.length = n := ⟨_, rfl⟩
  induction n generalizing l with
  | zero => rw [List.eq_nil_of_length_eq_zero hn]; rfl
  | succ n ih =>
    rcases List.eq_nil_or_concat l with h | ⟨l', c, rfl⟩
    · subst h; simp at hn
    · rw [List.concat_eq_append] at hn ⊢
      rw [List.length_append, List.length_singleton] at hn ⊢
      have hc : c.toNat < 256 := c.toNat_lt
      rw [deB_snoc, beB_succ, show (deB l' * 256 + c.toNat) / 256 = deB l' by omega, show (deB l' * 256 + c.toNat) % 256 = c.toNat by omega, ih l' (by omega)]
      simp
theorem headB_parts' (gen : Nat) (b : List UInt8) : headB gen b = [112, 100, 103, 113] ++ (beB gen 4 ++ (beB b.length 4 ++ (beB (crcN b) 4 ++ (beB (crcN (headCore gen b)) 4 ++ List.replicate 44 0)))) := by
  unfold headB
  conv => lhs; unfold headCore
  simp only [List.append_assoc]
  unfold headCore
  simp only [List.append_assoc]
theorem headB_take4 (gen : Nat) (b : List UInt8) : (headB gen b).take 4 = [112, 100, 103, 113] := by
  rw [headB_parts', List.take_left' (show ([112, 100, 103, 113] : List UInt8).length = 4 from rfl)]
theorem head_iff {h b : List UInt8} {g : Nat} (hl : h.length = 64) (hg : g = deB ((h.drop 4).take 4)) (hb : b.length = deB ((h.drop 8).take 4)) :
    h = headB g b ↔ h.take 4 = [112, 100, 103, 113] ∧ h.drop 20 = List.replicate 44 0 ∧ deB ((h.drop 16).take 4) = crcN (h.take 16) ∧ deB ((h.drop 12).take 4) = crcN b := by
  constructor
  · rintro rfl
    refine ⟨headB_take4 _ _, ?_, ?_, ?_⟩
    · unfold headB
      rw [List.drop_left' (by simp [headCore_len, length_beB])]
    · have h1 : ((headB g b).drop 16).take 4 = beB (crcN (headCore g b)) 4 := by
        unfold headB
        rw [List.append_assoc, List.drop_left' (headCore_len g b), List.take_left' (length_beB _ _)]
      have h2 : (headB g b).take 16 = headCore g b := by
        unfold headB
        rw [List.append_assoc, List.take_left' (headCore_len g b)]
      rw [h1, h2, de_be]
      exact Nat.mod_eq_of_lt (by have := crcN_lt (headCore g b); omega)
    · have h1 : ((headB g b).drop 12).take 4 = beB (crcN b) 4 := by
        rw [headB_parts', show (12 : Nat) = 4 + (4 + 4) from rfl]
        simp only [← List.drop_drop]
        rw [List.drop_left' (show ([112, 100, 103, 113] : List UInt8).length = 4 from rfl), List.drop_left' (length_beB _ _), List.drop_left' (length_beB _ _), List.take_left' (length_beB _ _)]
      rw [h1, de_be]
      exact Nat.mod_eq_of_lt (by have := crcN_lt b; omega)
  · rintro ⟨m, z, c, s⟩
    have ch : ∀ k, k + 4 ≤ 64 → (h.drop k).take 4 = beB (deB ((h.drop k).take 4)) 4 := fun k hk => by
      have h1 := be_de ((h.drop k).take 4)
      rw [show ((h.drop k).take 4).length = 4 by simp; omega] at h1
      exact h1.symm
    have e1 : h.take 16 = headCore g b := by
      unfold headCore
      rw [show (16 : Nat) = 4 + 4 + 4 + 4 from rfl, List.take_add, List.take_add, List.take_add, m, ch 4 (by omega), ch (4 + 4) (by omega), ch (4 + 4 + 4) (by omega), ← hg, s, hb]
    have e2 : h = (h.take 16 ++ (h.drop 16).take 4) ++ h.drop 20 := by
      rw [← List.take_add, List.take_append_drop]
    rw [e2, z, ch 16 (by omega), c, e1]
    rfl
/-- what a slot comes to, by the reference's tests -/
theorem readJ_ref {s : Dk} (h : s.Ok) {half σ : Nat} {g n : Nat} {x bb : List UInt8} (hx : s.now.getD (σ * half) [] = x) (hl : x.length = 64) (hg : deB ((x.drop 4).take 4) = g) (hn : deB ((x.drop 8).take 4) = n) (hb : (gatherJ s (σ * half) (secsN n)).take n = bb) (hbl : n ≤ (half - 1) * 64 → bb.length = n) :
    readJ s half σ = if x.take 4 = [112, 100, 103, 113] ∧ x.drop 20 = List.replicate 44 0 ∧ deB ((x.drop 16).take 4) = crcN (x.take 16) ∧ 1 ≤ g ∧ n ≤ (half - 1) * 64 ∧ deB ((x.drop 12).take 4) = crcN bb then (bb, g) else ([], 0) := by
  unfold readJ
  simp only [hx, hg, hn, hb]
  by_cases h1 : g = 0 ∨ (half - 1) * 64 < n
  · rw [if_pos h1, if_neg (by omega)]
  · rw [if_neg h1]
    have hi := head_iff hl hg.symm ((hbl (by omega)).trans hn.symm)
    by_cases h2 : x = headB g bb
    · obtain ⟨k1, k2, k3, k4⟩ := hi.1 h2
      rw [if_pos h2, if_pos ⟨k1, k2, k3, by omega, by omega, k4⟩]
    · rw [if_neg h2, if_neg (fun hc => h2 (hi.2 ⟨hc.1, hc.2.1, hc.2.2.1, hc.2.2.2.2.2⟩))]
/-- the reference's slot -/
def slotR (j : Jr) : Nat := if j.gen = 0 then 0 else j.slot
def hasR (j : Jr) : Bool := decide (j.gen ≠ 0)
end Go.Proofs.Ytjddplddpdcmdaa
namespace Go.Proofs.Ytjddplddpdcmdaa
open Go.RowKit
set_option linter.unusedVariables false

def rjcells (p : Nat) (bv : Value) (j : Jr) : List Value := [.pointer (some ⟨p, 0, none⟩), .bool (hasR j), .int .i64 (slotR j : Int), .int .u32 (j.gen : Int), bv, .bool j.broken]
/-- the reference's journal at k, of its disk at p -/
def KM (w0 W : World) (ds : List (Nat × Dk)) (p : Nat) (r : Rk) (k : Nat) (j : Jr) (bs : List (Nat × TypeId × List Value)) (rs0 : List (Nat × Value × List Value)) : Prop :=
  ∃ bv, RM w0 W ds p r ((k, 81, rjcells p bv j) :: bs) rs0 ∧ (1, bv, bytesV (lastJ j)) ∈ rs0
section
variable {w0 w w' W W' w1 w2 : World} {ds ds' : List (Nat × Dk)} {bs bs' : List (Nat × TypeId × List Value)} {rs rs' rs0 : List (Nat × Value × List Value)} {p d g k n sz : Nat} {s : Dk} {r r' : Rk} {v u : Value} {t : TypeId} {cs xs : List Value} {j : Jr}
theorem KM.below (h : KM w0 W ds p r k j bs rs0) (hb : Below W.heap.size W W') : KM w0 W' ds p r k j bs rs0 := by
  obtain ⟨bv, h1, h2⟩ := h
  exact ⟨bv, h1.below hb, h2⟩
theorem KM.bel (h : KM w0 W ds p r k j bs rs0) : Below w0.heap.size w0 W := by
  obtain ⟨bv, h1, h2⟩ := h
  exact h1.bel
theorem KM.ok (h : KM w0 W ds p r k j bs rs0) : r.Ok := by
  obtain ⟨bv, h1, h2⟩ := h
  exact h1.ok
theorem RM.form1 (h : RM w0 W ds p r bs rs0) {x : List UInt8} (hr : (1, v, bytesV x) ∈ rs0) : ∃ A c, v = .slice A x.length c := by
  obtain ⟨A, c, e, _⟩ := (h.reads1 hr).form
  rw [length_bytesV] at e
  exact ⟨A, c, e⟩
/-- what the own block holds -/
theorem KM.cells (h : KM w0 W ds p r k j bs rs0) : ∃ A c A0 c0, k < W.heap.size ∧ p < W.heap.size ∧ W.cell? ⟨k, 0, none⟩ = some (.pointer (some ⟨p, 0, none⟩)) ∧ W.cell? ⟨k, 1, none⟩ = some (.bool (hasR j)) ∧ W.cell? ⟨k, 2, none⟩ = some (.int .i64 (slotR j : Int)) ∧ W.cell? ⟨k, 3, none⟩ = some (.int .u32 (j.gen : Int)) ∧
    W.cell? ⟨k, 4, none⟩ = some (.slice A (lastJ j).length c) ∧ W.cell? ⟨k, 5, none⟩ = some (.bool j.broken) ∧ W.cell? ⟨p, 0, none⟩ = some (.slice A0 r.sure.length c0) := by
  obtain ⟨bv, h1, h2⟩ := h
  obtain ⟨A, c, rfl⟩ := h1.form1 h2
  have hb := h1.blk (.head _)
  obtain ⟨hp, ⟨A0, c0, hc⟩, _⟩ := h1.cells
  exact ⟨A, c, A0, c0, hb.lt, hp, hb.cell 0, hb.cell 1, hb.cell 2, hb.cell 3, hb.cell 4, hb.cell 5, hc⟩
theorem khalf_any (h : KM w0 W ds p r k j bs rs0) (n : Nat) (hn : r.sure.length / 2 = n) : Calls Try.prog 39 #[.pointer (some ⟨k, 0, none⟩)] W fun en w' => en = .returned (.int .i64 (n : Int)) ∧ W = w' := by
  obtain ⟨A, c, A0, c0, hk, hp, k0, _, _, _, _, _, p0⟩ := h.cells
  have hm := h.ok.most
  obtain ⟨N, hN⟩ : ∃ N, r.sure.length = N := ⟨_, rfl⟩
  rw [hN] at p0 hn hm
  have e1 : (N : Int).tdiv 2 = (n : Int) := by rw [Int.tdiv_eq_ediv_of_nonneg (by omega)]; omega
  have e2 : (n : Int) ≤ 4096 := by omega
  have e3 : wrap64 (n : Int) = (n : Int) := by unfold wrap64; omega
  clear hN hn h
  go_enter Try.func39, Try.ntmps39
  go_wp2
  go_ret
  exact ⟨rfl, rfl⟩
theorem kroom_any (h : KM w0 W ds p r k j bs rs0) (n : Nat) (h4 : 4 ≤ r.sure.length) (hn : (r.sure.length / 2 - 1) * 64 = n) : Calls Try.prog 44 #[.pointer (some ⟨k, 0, none⟩)] W fun en w' => en = .returned (.int .i64 (n : Int)) ∧ W = w' := by
  obtain ⟨m, hm⟩ : ∃ m, r.sure.length / 2 = m := ⟨_, rfl⟩
  have hmo := h.ok.most
  have HH := Lib.hid h
  have HM := Lib.hid hm
  rw [hm] at hn
  have e1 : ((m : Int) - 1) * 64 = (n : Int) := by omega
  have e2 : 1 ≤ (m : Int) ∧ (m : Int) ≤ 4096 := by omega
  clear h hm hn hmo h4
  go_enter Try.func44, Try.ntmps44
  go_wp2_with fail
  refine (khalf_any HH.out m HM.out).mono ?_
  rintro en w1 ⟨rfl, rfl⟩
  go_wp2
  go_ret
  exact ⟨rfl, rfl⟩
end
end Go.Proofs.Ytjddplddpdcmdaa
