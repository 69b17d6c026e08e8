/- Plain laws of datasets as bytes. -/
import Derived.Test.YtfhlailhcfjjaaaDataDecP
namespace Go.Proofs.Ytfhlailhcfjjaaa
open Go.RowKit
set_option linter.unusedVariables false
set_option linter.unusedSimpArgs false

theorem rdt_ok (l r : List UInt8) (n : Nat) (hn : l.length = n) (h0 : 0 < n) : rdt (l ++ r, 0) n = l := by
  unfold rdt takeOut
  rw [if_neg (by omega), if_neg (by rw [List.length_append]; omega), Int.toNat_natCast, ← hn, List.take_left]
theorem rds_ok (l r : List UInt8) (n : Nat) (hn : l.length = n) (h0 : 0 < n) : rds (l ++ r, 0) n = (r, 0) := by
  unfold rds takeLeft takeErr
  simp only
  rw [if_neg (by omega), if_neg (by rw [List.length_append]; omega), if_neg (by omega), if_neg (by rw [List.length_append]; omega), Int.toNat_natCast, ← hn, List.drop_left]
theorem enc1_dec (n : Int) (h : 0 ≤ n ∧ n ≤ 255) : (deB (enc1 n) : Int) = n := by
  unfold enc1
  rw [de_be, IntKind.wrap_u64]
  omega
theorem enc2_dec (n : Int) (h : 0 ≤ n ∧ n ≤ 65535) : (deB (enc2 n) : Int) = n := by
  unfold enc2
  rw [de_be, IntKind.wrap_u64]
  omega
theorem enc1_dec8 (n : Int) (h : -128 ≤ n ∧ n ≤ 127) : IntKind.i8.wrap (deB (enc1 n) : Int) = n := by
  unfold enc1
  rw [de_be, IntKind.wrap_u64]
  unfold IntKind.wrap
  simp only [IntKind.bits, IntKind.signed]
  simp
  omega
/-- a byte that is a number's lowest -/
theorem enc1_one (n : Int) : ∃ b : UInt8, enc1 n = [b] := by
  have := length_enc1 n
  match h : enc1 n, this with
  | [b], _ => exact ⟨b, rfl⟩
theorem i8s_enc (l : List Int) (h : ∀ x ∈ l, -128 ≤ x ∧ x ≤ 127) : i8s (l.flatMap enc1) = l := by
  induction l with
  | nil => rfl
  | cons x l ih =>
    obtain ⟨b, hb⟩ := enc1_one x
    have h1 := enc1_dec8 x (h x (by simp))
    rw [hb] at h1
    rw [List.flatMap_cons, hb]
    unfold i8s at ih ⊢
    rw [List.map_append, ih (fun y hy => h y (by simp [hy]))]
    simp only [List.map_cons, List.map_nil, List.cons_append, List.nil_append, List.cons.injEq, and_true]
    simpa [deB] using h1
/-- the head, without its examples -/
def headV (d : DatV) : DatV := ⟨d.a, d.b, d.c, d.exp, d.cl, .slice none 0 0, []⟩
theorem headI_headV (d : DatV) (n : Int) : headI (headV d) n = headI d n := rfl
theorem head_split (d : DatV) (r : List UInt8) : encHead d ++ r = [112, 100, 100, 115] ++ (enc1 d.a ++ (enc1 d.b ++ (enc1 d.c ++ (enc1 d.exp ++ (enc1 d.cl ++ (enc2 d.xs.length ++ r)))))) := by
  unfold encHead
  simp
theorem badBegin_ok (d : DatV) (r : List UInt8) : badBegin (encHead d ++ r) = false := by
  unfold badBegin
  have e : ∀ r, rdt ([112, 100, 100, 115] ++ r, 0) 4 = [112, 100, 100, 115] := fun r => rdt_ok [112, 100, 100, 115] r 4 rfl (by omega)
  rw [head_split, e]
  rfl
theorem decHead_ok {d : DatV} (h : headI d d.xs.length = true) (r : List UInt8) : decHead (encHead d ++ r) = (headV d, (d.xs.length : Int), (r, 0)) := by
  obtain ⟨h1, h2, h3, h4, h5, h6⟩ := headI_of h
  unfold decHead
  rw [head_split]
  have e1 : ∀ (n : Int) (r : List UInt8), rds (enc1 n ++ r, 0) 1 = (r, 0) := fun n r => rds_ok (enc1 n) r 1 (length_enc1 n) (by omega)
  have e2 : ∀ (n : Int) (r : List UInt8), rdt (enc1 n ++ r, 0) 1 = enc1 n := fun n r => rdt_ok (enc1 n) r 1 (length_enc1 n) (by omega)
  have e3 : ∀ (n : Int) (r : List UInt8), rds (enc2 n ++ r, 0) 2 = (r, 0) := fun n r => rds_ok (enc2 n) r 2 (length_enc2 n) (by omega)
  have e4 : ∀ (n : Int) (r : List UInt8), rdt (enc2 n ++ r, 0) 2 = enc2 n := fun n r => rdt_ok (enc2 n) r 2 (length_enc2 n) (by omega)
  have e5 : ∀ (r : List UInt8), rds ([112, 100, 100, 115] ++ r, 0) 4 = (r, 0) := fun r => rds_ok [112, 100, 100, 115] r 4 rfl (by omega)
  simp only [e1, e2, e3, e4, e5]
  rw [enc1_dec _ (by omega), enc1_dec _ (by omega), enc1_dec _ (by omega), enc1_dec8 _ (by omega), enc1_dec _ (by omega), enc2_dec _ (by omega)]
  rfl
theorem endErr_le (r : List UInt8) : endErr r 0 = 0 ∨ endErr r 0 = 5 := by
  unfold endErr
  split
  · exact .inr rfl
  · exact .inl rfl
theorem decStep_ok {h : DatV} {x : ExV} (ho : oneI h x = true) (hx : ∀ y ∈ x.data, -128 ≤ y ∧ y ≤ 127) (hl : 0 ≤ x.label ∧ x.label ≤ 255) (hs : 1 ≤ sizeD h) (r : List UInt8) (acc : List (List Int × Int)) :
    decStep h ⟨0, (encEx x ++ r, 0), acc⟩ = ⟨0, (r, 0), acc ++ [(x.data, x.label)]⟩ := by
  have hlen := oneI_len ho
  have e1 := rds_ok (enc1 x.label) (x.data.flatMap enc1 ++ r) 1 (length_enc1 _) (by omega)
  have e2 := rdt_ok (enc1 x.label) (x.data.flatMap enc1 ++ r) 1 (length_enc1 _) (by omega)
  have e3 := rds_ok (x.data.flatMap enc1) r x.data.length (length_flat1 _) (by omega)
  have e4 := rdt_ok (x.data.flatMap enc1) r x.data.length (length_flat1 _) (by omega)
  rw [hlen] at e3 e4
  unfold decStep
  have e : encEx x ++ r = enc1 x.label ++ (x.data.flatMap enc1 ++ r) := by unfold encEx; rw [List.append_assoc]
  simp only [e]
  rw [show ((1 : Int)) = ((1 : Nat) : Int) from rfl, e1, e2]
  simp only [e3, e4]
  rw [enc1_dec _ hl, i8s_enc _ hx]
  have h4 : ¬ endErr r 0 = 4 := by rcases endErr_le r with h | h <;> rw [h] <;> decide
  rw [if_neg h4, if_pos (by rw [← ho]; exact oneI_form _ _ _ _ rfl rfl rfl rfl rfl rfl)]
theorem decRun_ok {h : DatV} (hs : 1 ≤ sizeD h) (r : List UInt8) : ∀ (xs : List ExV) (acc : List (List Int × Int)), (∀ x ∈ xs, oneI h x = true ∧ (∀ y ∈ x.data, -128 ≤ y ∧ y ≤ 127) ∧ 0 ≤ x.label ∧ x.label ≤ 255) →
    decRun h xs.length ⟨0, (xs.flatMap encEx ++ r, 0), acc⟩ = ⟨0, (r, 0), acc ++ xs.map (fun e => (e.data, e.label))⟩
  | [], acc, _ => by simp [decRun]
  | x :: xs, acc, hx => by
    obtain ⟨h1, h2, h3⟩ := hx x (by simp)
    rw [List.length_cons, decRun, if_pos rfl, List.flatMap_cons, List.append_assoc, decStep_ok h1 h2 h3 hs, decRun_ok hs r xs _ (fun y hy => hx y (by simp [hy])), List.append_assoc]
    rfl
/-- all numbers of a dataset are bytes -/
def bytesD (d : DatV) : Prop := ∀ e ∈ d.xs, ∀ y ∈ e.data, -128 ≤ y ∧ y ≤ 127
theorem oneI_label {d : DatV} {e : ExV} (h : oneI d e = true) : 0 ≤ e.label ∧ e.label ≤ d.cl - 1 := by
  unfold oneI at h
  simp only [Bool.and_eq_true] at h
  exact inD_of h.2.2
theorem decZ_ok {d : DatV} (hm : mayD d = true) (hb : bytesD d) (r : List UInt8) : decZ (decHead (encD d ++ r)) = ⟨0, (r, 0), d.xs.map (fun e => (e.data, e.label))⟩ := by
  obtain ⟨h1, h2⟩ := mayD_of hm
  have hh := headI_of h1
  unfold encD
  rw [List.append_assoc, decHead_ok h1]
  unfold decZ
  have he : decE (headV d, (d.xs.length : Int), (d.xs.flatMap encEx ++ r, 0)) = 0 := by
    unfold decE
    rw [if_pos (endErr_le _)]
    exact if_pos h1
  rw [he]
  simp only [Int.toNat_natCast]
  rw [decRun_ok (h := headV d) (sizeD_in h1).1 r d.xs [] (fun x hx => ⟨h2 x hx, hb x hx, by have := oneI_label (h2 x hx); omega⟩)]
  simp
theorem decode_ok {d : DatV} (hm : mayD d = true) (hb : bytesD d) (r : List UInt8) : decode (encD d ++ r) = if r = [] then (0, headV d, d.xs.map (fun e => (e.data, e.label))) else (5, ⟨0, 0, 0, 0, 0, .slice none 0 0, []⟩, []) := by
  have h1 := (mayD_of hm).1
  unfold decode
  rw [decZ_ok hm hb r]
  have hbb : badBegin (encD d ++ r) = false := by unfold encD; rw [List.append_assoc]; exact badBegin_ok d _
  have hhd : (decHead (encD d ++ r)).1 = headV d := by unfold encD; rw [List.append_assoc, decHead_ok h1]
  rw [hbb, if_neg (by decide), hhd]
  unfold decEnd endErr
  by_cases hr : r = []
  · subst hr
    simp
  · have : 0 < r.length := by cases r with | nil => exact absurd rfl hr | cons _ _ => simp
    simp [hr, this]
theorem length_encD {d : DatV} (hm : mayD d = true) : ((encD d).length : Int) = 11 + d.xs.length * (1 + sizeD d) := by
  obtain ⟨h1, h2⟩ := mayD_of hm
  unfold encD
  rw [List.length_append, length_encHead]
  have : ∀ xs : List ExV, (∀ e ∈ xs, oneI d e = true) → ((xs.flatMap encEx).length : Int) = xs.length * (1 + sizeD d) := by
    intro xs hx
    induction xs with
    | nil => simp
    | cons x l ih =>
      have h3 := oneI_len (hx x (by simp))
      have h4 := ih (fun e he => hx e (by simp [he]))
      rw [List.flatMap_cons, List.length_append, length_encEx, List.length_cons]
      rw [show (((l.length + 1 : Nat) : Int)) * (1 + sizeD d) = (l.length : Int) * (1 + sizeD d) + (1 + sizeD d) by push_cast; rw [Int.add_mul]; omega]
      push_cast
      omega
  have := this d.xs h2
  push_cast
  omega
end Go.Proofs.Ytfhlailhcfjjaaa
