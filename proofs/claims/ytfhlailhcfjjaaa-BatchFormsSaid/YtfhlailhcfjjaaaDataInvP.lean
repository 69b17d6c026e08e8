/- Plain laws of datasets as bytes: what is read is written as those bytes. -/
import Derived.Test.YtfhlailhcfjjaaaDataBackP
namespace Go.Proofs.Ytfhlailhcfjjaaa
open Go.RowKit
set_option linter.unusedVariables false
set_option linter.unusedSimpArgs false

theorem be_de (l : List UInt8) : beB (deB l) l.length = l := by
  obtain ⟨n, hn⟩ : ∃ n, l.length = n := ⟨_, rfl⟩
  induction n generalizing l with
  | zero => rw [List.eq_nil_of_length_eq_zero hn]; rfl
  | succ n ih =>
    rcases List.eq_nil_or_concat l with h | ⟨l', c, rfl⟩
    · subst h; simp at hn
    · rw [List.concat_eq_append] at hn ⊢
      rw [List.length_append, List.length_singleton] at hn ⊢
      have hc : c.toNat < 256 := c.toNat_lt
      rw [deB_snoc, beB_succ, show (deB l' * 256 + c.toNat) / 256 = deB l' by omega, show (deB l' * 256 + c.toNat) % 256 = c.toNat by omega, ih l' (by omega)]
      simp
theorem enc1_of (l : List UInt8) (h : l.length = 1) : enc1 (deB l : Int) = l := by
  have h1 := deB_lt 1 l h
  rw [show (256 : Nat) ^ 1 = 256 from rfl] at h1
  have h2 : (IntKind.u64.wrap (deB l : Int)).toNat = deB l := by rw [IntKind.wrap_u64]; omega
  unfold enc1
  rw [h2, ← h, be_de]
theorem enc1_of8 (l : List UInt8) (h : l.length = 1) : enc1 (IntKind.i8.wrap (deB l : Int)) = l := by
  have h1 := deB_lt 1 l h
  rw [show (256 : Nat) ^ 1 = 256 from rfl] at h1
  have h2 : (IntKind.u64.wrap (IntKind.i8.wrap (deB l : Int))).toNat % 256 ^ 1 = deB l := by
    rw [IntKind.wrap_u64]
    unfold IntKind.wrap
    simp only [IntKind.bits, IntKind.signed]
    simp
    omega
  unfold enc1
  rw [← beB_mod _ 1 1 (Nat.le_refl _), h2]
  have := be_de l
  rwa [h] at this
theorem enc2_of (l : List UInt8) (h : l.length = 2) : enc2 (deB l : Int) = l := by
  have h1 := deB_lt 2 l h
  rw [show (256 : Nat) ^ 2 = 65536 from rfl] at h1
  have h2 : (IntKind.u64.wrap (deB l : Int)).toNat = deB l := by rw [IntKind.wrap_u64]; omega
  unfold enc2
  rw [h2, ← h, be_de]
theorem deB_one (b : UInt8) : deB [b] = b.toNat := by simp [deB]
theorem flat_i8s (l : List UInt8) : (i8s l).flatMap enc1 = l := by
  induction l with
  | nil => rfl
  | cons x l ih =>
    unfold i8s at ih ⊢
    have h := enc1_of8 [x] rfl
    rw [deB_one] at h
    rw [List.map_cons, List.flatMap_cons, ih, h]
    rfl
theorem rd_inv {s : RdV} {n : Int} (hn : 0 ≤ n) (h : (rds s n).2 = 0) : s.2 = 0 ∧ (rdt s n).length = n.toNat ∧ s.1 = rdt s n ++ (rds s n).1 := by
  obtain ⟨l, e⟩ := s
  unfold rds rdt takeErr takeOut takeLeft at *
  simp only at h ⊢
  by_cases h1 : e ≠ 0 ∨ n ≤ 0
  · rw [if_pos h1] at h
    rw [if_pos h1, if_pos h1]
    refine ⟨h, ?_, rfl⟩
    rcases h1 with h1 | h1
    · exact absurd h h1
    · simp; omega
  · rw [if_neg h1] at h
    rw [if_neg h1, if_neg h1]
    by_cases h2 : (l.length : Int) < n
    · rw [if_pos h2] at h; omega
    · rw [if_neg h2, if_neg h2]
      rw [if_neg h2] at h
      refine ⟨h, ?_, (List.take_append_drop _ _).symm⟩
      rw [List.length_take]
      omega
theorem decStep_inv {h : DatV} {z : DSt} (hs : 1 ≤ sizeD h) (he : (decStep h z).e = 0) (h0 : z.e = 0) (hr : (decStep h z).s.2 = 0) :
    ∃ p : List Int × Int, (decStep h z).xs = z.xs ++ [p] ∧ oneI h (exV p) = true ∧ z.s.2 = 0 ∧ z.s.1 = encEx (exV p) ++ (decStep h z).s.1 := by
  unfold decStep at he hr ⊢
  simp only at he hr ⊢
  obtain ⟨a1, a2, a3⟩ := rd_inv (by omega) hr
  obtain ⟨b1, b2, b3⟩ := rd_inv (by omega) a1
  refine ⟨_, rfl, ?_, b1, ?_⟩
  · by_cases h4 : endErr (rds (rds z.s 1) (sizeD h)).1 (rds (rds z.s 1) (sizeD h)).2 = 4
    · rw [if_pos h4] at he; omega
    · rw [if_neg h4] at he
      by_cases h5 : oneI h (exV (i8s (rdt (rds z.s 1) (sizeD h)), (deB (rdt z.s 1) : Int))) = true
      · exact h5
      · rw [if_neg h5] at he; omega
  · unfold encEx exV
    simp only
    rw [flat_i8s, enc1_of _ (by simpa using b2), List.append_assoc, ← a3, ← b3]
theorem decRun_inv {h : DatV} (hs : 1 ≤ sizeD h) : ∀ (n : Nat) (z : DSt), (decRun h n z).e = 0 → (decRun h n z).s.2 = 0 →
    z.e = 0 ∧ ∃ ys : List (List Int × Int), (decRun h n z).xs = z.xs ++ ys ∧ ys.length = n ∧ (∀ p ∈ ys, oneI h (exV p) = true) ∧ z.s.2 = 0 ∧ z.s.1 = ys.flatMap (fun p => encEx (exV p)) ++ (decRun h n z).s.1
  | 0, z, he, hr => ⟨he, [], by simp [decRun], rfl, by simp, hr, by simp [decRun]⟩
  | n + 1, z, he, hr => by
    rw [decRun] at he hr ⊢
    by_cases h0 : z.e = 0
    · rw [if_pos h0] at he hr ⊢
      obtain ⟨k0, ys, k1, k2, k3, k4, k5⟩ := decRun_inv hs n (decStep h z) he hr
      obtain ⟨p, j1, j2, j3, j4⟩ := decStep_inv hs k0 h0 k4
      refine ⟨h0, p :: ys, ?_, by simp [k2], ?_, j3, ?_⟩
      · rw [k1, j1]; simp
      · intro q hq
        rcases List.mem_cons.1 hq with rfl | hq
        · exact j2
        · exact k3 q hq
      · rw [j4, k5, List.flatMap_cons, List.append_assoc]
    · rw [if_neg h0] at he
      exact absurd he h0
/-- the dataset that is told, with its rows -/
def datOf (bs : List UInt8) (v : Value) (xs : List ExV) : DatV := ⟨(decode bs).2.1.a, (decode bs).2.1.b, (decode bs).2.1.c, (decode bs).2.1.exp, (decode bs).2.1.cl, v, xs⟩
theorem endErr_zero {l : List UInt8} {e : Int} (h : endErr l e = 0) : e = 0 ∧ l = [] := by
  unfold endErr at h
  by_cases h1 : e = 0 ∧ 0 < l.length
  · rw [if_pos h1] at h; omega
  · rw [if_neg h1] at h
    refine ⟨h, List.eq_nil_of_length_eq_zero ?_⟩
    omega
theorem decode_some {bs : List UInt8} (h : (decode bs).1 = 0) : badBegin bs = false ∧ decEnd (decZ (decHead bs)) = 0 ∧ decode bs = (0, (decHead bs).1, (decZ (decHead bs)).xs) := by
  unfold decode at h ⊢
  by_cases h1 : badBegin bs = true
  · rw [if_pos h1] at h; simp at h
  · rw [if_neg h1] at h ⊢
    by_cases h2 : decEnd (decZ (decHead bs)) = 0
    · exact ⟨by simpa using h1, h2, if_pos h2⟩
    · rw [if_neg h2] at h
      exact absurd h h2
theorem decode_inv {bs : List UInt8} (h : (decode bs).1 = 0) (v : Value) (xs : List ExV) (hx : xs.map (fun e => (e.data, e.label)) = (decode bs).2.2) : mayD (datOf bs v xs) = true ∧ encD (datOf bs v xs) = bs := by
  obtain ⟨hb, he, hd⟩ := decode_some h
  unfold datOf
  rw [hd] at hx ⊢
  simp only at hx ⊢
  have hz : (decZ (decHead bs)).e = 0 := by
    unfold decEnd at he
    by_cases h1 : (decZ (decHead bs)).e = 0
    · exact h1
    · rw [if_neg h1] at he; exact he
  unfold decEnd at he
  rw [if_pos hz] at he
  obtain ⟨he, hl⟩ := endErr_zero he
  have hz2 := hz
  unfold decZ at hz he hl hx
  have hE : decE (decHead bs) = 0 := by
    by_cases h1 : decE (decHead bs) = 0
    · exact h1
    · rw [decRun_ne (by exact h1)] at hz; exact hz
  have hH := decE_zero hE
  obtain ⟨hsz, _, _⟩ := sizeD_in hH
  obtain ⟨_, ys, k1, k2, k3, k4, k5⟩ := decRun_inv hsz _ _ hz he
  rw [hl, List.append_nil] at k5
  rw [k1] at hx
  simp only [List.nil_append] at hx k4 k5
  have hlen : (xs.length : Int) = (decHead bs).2.1 := by
    have h1 : xs.length = ys.length := by rw [← hx, List.length_map]
    have := (headI_of hH).2.2.2.2.2
    omega
  have hfl : ys.flatMap (fun p => encEx (exV p)) = xs.flatMap encEx := by
    rw [← hx, List.flatMap_map]
    rfl
  have hone : ∀ e ∈ xs, oneI (decHead bs).1 e = true := by
    intro e hm
    have := k3 (e.data, e.label) (by rw [← hx]; exact List.mem_map.2 ⟨e, hm, rfl⟩)
    rw [← this]
    exact oneI_form _ _ _ _ rfl rfl rfl rfl rfl rfl
  constructor
  · unfold mayD
    simp only [Bool.and_eq_true, List.all_eq_true]
    refine ⟨?_, fun e hm => ?_⟩
    · rw [hlen]
      exact hH
    · rw [← hone e hm]
      exact oneI_form _ _ _ _ rfl rfl rfl rfl rfl rfl
  · unfold encD
    rw [← hfl, ← k5]
    unfold encHead
    simp only
    rw [hlen]
    unfold decHead at k4 ⊢
    simp only at k4 ⊢
    obtain ⟨e6, l6, r6⟩ := rd_inv (by omega) k4
    obtain ⟨e5, l5, r5⟩ := rd_inv (by omega) e6
    obtain ⟨e4, l4, r4⟩ := rd_inv (by omega) e5
    obtain ⟨e3, l3, r3⟩ := rd_inv (by omega) e4
    obtain ⟨e2, l2, r2⟩ := rd_inv (by omega) e3
    obtain ⟨e1, l1, r1⟩ := rd_inv (by omega) e2
    obtain ⟨_, l0, r0⟩ := rd_inv (by omega) e1
    have hbeg : rdt (bs, 0) 4 = beginB := by
      unfold badBegin at hb
      rw [l0] at hb
      simpa using hb
    rw [hbeg] at r0
    simp only at r0
    conv => rhs; rw [r0, r1, r2, r3, r4, r5, r6]
    simp only [List.flatMap_cons, List.flatMap_nil]
    rw [enc1_of _ (by simpa using l1), enc1_of _ (by simpa using l2), enc1_of _ (by simpa using l3), enc1_of8 _ (by simpa using l4), enc1_of _ (by simpa using l5), enc2_of _ (by simpa using l6)]
    simp [beginB]
/-- an example that was read of so many bytes -/
def readEx (m : Nat) (p : List Int × Int) : Prop := (∀ x ∈ p.1, -128 ≤ x ∧ x ≤ 127) ∧ p.1.length ≤ m ∧ 0 ≤ p.2 ∧ p.2 ≤ 255
theorem i8s_in (l : List UInt8) : ∀ x ∈ i8s l, -128 ≤ x ∧ x ≤ 127 := by
  intro x hx
  unfold i8s at hx
  obtain ⟨b, _, rfl⟩ := List.mem_map.1 hx
  unfold IntKind.wrap
  simp only [IntKind.bits, IntKind.signed]
  simp
  omega
theorem rdt_le (s : RdV) (n : Int) : (rdt s n).length ≤ s.1.length := by
  unfold rdt takeOut
  by_cases h1 : s.2 ≠ 0 ∨ n ≤ 0
  · rw [if_pos h1]; simp
  · rw [if_neg h1]
    by_cases h2 : (s.1.length : Int) < n
    · rw [if_pos h2]; simp
    · rw [if_neg h2, List.length_take]; omega
theorem decStep_read {h : DatV} {z : DSt} {m : Nat} (hm : z.s.1.length ≤ m) (hz : ∀ p ∈ z.xs, readEx m p) : (decStep h z).s.1.length ≤ m ∧ ∀ p ∈ (decStep h z).xs, readEx m p := by
  have a1 := rds_len z.s 1
  have a2 := rds_len (rds z.s 1) (sizeD h)
  have a3 := rdt_le (rds z.s 1) (sizeD h)
  have a4 := deB_u8 z.s.1 z.s.2
  unfold decStep
  simp only
  refine ⟨by omega, fun p hp => ?_⟩
  rcases List.mem_append.1 hp with hp | hp
  · exact hz p hp
  · rw [List.mem_singleton] at hp
    subst hp
    refine ⟨i8s_in _, ?_, ?_, ?_⟩
    · show (i8s _).length ≤ m
      unfold i8s
      rw [List.length_map]
      omega
    · exact Int.natCast_nonneg _
    · show ((deB (rdt z.s 1) : Nat) : Int) ≤ 255
      unfold rdt
      omega
theorem decRun_read {h : DatV} {m : Nat} : ∀ (n : Nat) (z : DSt), z.s.1.length ≤ m → (∀ p ∈ z.xs, readEx m p) → (∀ p ∈ (decRun h n z).xs, readEx m p) ∧ (decRun h n z).xs.length ≤ z.xs.length + n
  | 0, z, _, hz => ⟨hz, by simp [decRun]⟩
  | n + 1, z, hm, hz => by
    rw [decRun]
    by_cases h0 : z.e = 0
    · rw [if_pos h0]
      obtain ⟨k1, k2⟩ := decStep_read (h := h) hm hz
      obtain ⟨k3, k4⟩ := decRun_read n (decStep h z) k1 k2
      refine ⟨k3, ?_⟩
      have : (decStep h z).xs.length = z.xs.length + 1 := by unfold decStep; simp
      omega
    · rw [if_neg h0]
      exact ⟨hz, by omega⟩
theorem decode_read (bs : List UInt8) : (∀ p ∈ (decode bs).2.2, readEx bs.length p) ∧ (decode bs).2.2.length ≤ 65535 := by
  unfold decode
  by_cases h1 : badBegin bs = true
  · rw [if_pos h1]; simp
  · rw [if_neg h1]
    by_cases h2 : decEnd (decZ (decHead bs)) = 0
    · rw [if_pos h2]
      have hl : (decHead bs).2.2.1.length ≤ bs.length := by
        unfold decHead
        simp only
        exact Nat.le_trans (rds_len _ _) (Nat.le_trans (rds_len _ _) (Nat.le_trans (rds_len _ _) (Nat.le_trans (rds_len _ _) (Nat.le_trans (rds_len _ _) (Nat.le_trans (rds_len _ _) (rds_len _ _))))))
      have h3 := decRun_read (h := (decHead bs).1) (m := bs.length) (decHead bs).2.1.toNat ⟨decE (decHead bs), (decHead bs).2.2, []⟩ hl (by simp)
      unfold decZ
      refine ⟨h3.1, ?_⟩
      have h4 := h3.2
      simp only [List.length_nil, Nat.zero_add] at h4
      have h5 : (decHead bs).2.1.toNat ≤ 65535 := by
        unfold decHead rdt
        simp only
        have := deB_256 (rds (rds (rds (rds (rds (rds (bs, 0) 4) 1) 1) 1) 1) 1).1 (rds (rds (rds (rds (rds (rds (bs, 0) 4) 1) 1) 1) 1) 1).2 2
        rw [show (256 : Nat) ^ 2 = 65536 from rfl] at this
        have e : (((2 : Nat) : Int)) = 2 := rfl
        rw [e] at this
        omega
      exact Nat.le_trans h4 h5
    · rw [if_neg h2]; simp
theorem decode_nums (bs : List UInt8) : (0 ≤ (decode bs).2.1.a ∧ (decode bs).2.1.a ≤ 255) ∧ (0 ≤ (decode bs).2.1.b ∧ (decode bs).2.1.b ≤ 255) ∧ (0 ≤ (decode bs).2.1.c ∧ (decode bs).2.1.c ≤ 255) ∧ (-128 ≤ (decode bs).2.1.exp ∧ (decode bs).2.1.exp ≤ 127) ∧ (0 ≤ (decode bs).2.1.cl ∧ (decode bs).2.1.cl ≤ 255) := by
  unfold decode
  have hd : ∀ s : RdV, (0 : Int) ≤ (deB (rdt s 1) : Int) ∧ (deB (rdt s 1) : Int) ≤ 255 := fun s => by
    have := deB_u8 s.1 s.2
    unfold rdt
    omega
  have h8 : ∀ n : Int, -128 ≤ IntKind.i8.wrap n ∧ IntKind.i8.wrap n ≤ 127 := fun n => by
    unfold IntKind.wrap
    simp only [IntKind.bits, IntKind.signed]
    simp
    omega
  by_cases h1 : badBegin bs = true
  · rw [if_pos h1]; simp
  · rw [if_neg h1]
    by_cases h2 : decEnd (decZ (decHead bs)) = 0
    · rw [if_pos h2]
      unfold decHead
      exact ⟨hd _, hd _, hd _, h8 _, hd _⟩
    · rw [if_neg h2]; simp
theorem decode_bytes {bs : List UInt8} {v : Value} {xs : List ExV} (hx : xs.map (fun e => (e.data, e.label)) = (decode bs).2.2) : bytesD (datOf bs v xs) := by
  intro e he
  have := (decode_read bs).1 (e.data, e.label) (by rw [← hx]; exact List.mem_map.2 ⟨e, he, rfl⟩)
  exact this.1
/-- what was not read is nothing -/
theorem decode_none {bs : List UInt8} (h : (decode bs).1 ≠ 0) : (decode bs).2.2 = [] := by
  unfold decode at h ⊢
  by_cases h1 : badBegin bs = true
  · rw [if_pos h1]
  · rw [if_neg h1] at h ⊢
    by_cases h2 : decEnd (decZ (decHead bs)) = 0
    · rw [if_pos h2] at h; exact absurd rfl h
    · rw [if_neg h2]
/-- of bytes that are one short there is no dataset -/
theorem decode_short {d : DatV} (hm : mayD d = true) (hb : bytesD d) : (decode (encD d).dropLast).1 ≠ 0 := by
  intro h
  obtain ⟨ys, hys⟩ : ∃ ys : List ExV, ys.map (fun e => (e.data, e.label)) = (decode (encD d).dropLast).2.2 :=
    ⟨(decode (encD d).dropLast).2.2.map exV, by rw [List.map_map]; exact (List.map_congr_left (fun p _ => rfl)).trans (List.map_id _)⟩
  obtain ⟨h1, h2⟩ := decode_inv h (.slice none 0 0) ys hys
  have hne : encD d ≠ [] := by
    intro e
    have h3 := length_encD hm
    have := (sizeD_in (mayD_of hm).1).1
    rw [e] at h3
    have : (0 : Int) ≤ d.xs.length * (1 + sizeD d) := Int.mul_nonneg (by omega) (by omega)
    simp at h3
    omega
  have hdl := List.dropLast_concat_getLast hne
  have hb2 : bytesD (datOf (encD d).dropLast (.slice none 0 0) ys) := decode_bytes hys
  have h3 := decode_ok h1 hb2 [(encD d).getLast hne]
  rw [h2, hdl] at h3
  have h4 := decode_ok hm hb []
  rw [List.append_nil, if_pos rfl] at h4
  rw [if_neg (by simp), h4] at h3
  injection h3 with h3
  omega
end Go.Proofs.Ytfhlailhcfjjaaa
