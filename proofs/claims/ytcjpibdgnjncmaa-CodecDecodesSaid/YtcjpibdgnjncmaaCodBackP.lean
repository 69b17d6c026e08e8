/- Plain laws of states as bytes: what is written is read as it was. -/
import Derived.Test.YtcjpibdgnjncmaaCodDec3P
namespace Go.Proofs.Ytcjpibdgnjncmaa
open Go.RowKit
set_option linter.unusedVariables false
set_option linter.unusedSimpArgs false

theorem rdt_ok (l r : List UInt8) (n : Nat) (hn : l.length = n) (h0 : 0 < n) : rdt (l ++ r, 0) n = l := by
  unfold rdt takeOut
  rw [if_neg (by omega), if_neg (by rw [List.length_append]; omega), Int.toNat_natCast, ← hn, List.take_left]
theorem rds_ok (l r : List UInt8) (n : Nat) (hn : l.length = n) (h0 : 0 < n) : rds (l ++ r, 0) n = (r, 0) := by
  unfold rds takeLeft takeErr
  simp only
  rw [if_neg (by omega), if_neg (by rw [List.length_append]; omega), if_neg (by omega), if_neg (by rw [List.length_append]; omega), Int.toNat_natCast, ← hn, List.drop_left]
theorem enc1_dec (n : Int) (h : 0 ≤ n ∧ n ≤ 255) : (deB (enc1 n) : Int) = n := by
  unfold enc1
  rw [de_be, IntKind.wrap_u64]
  omega
theorem enc2_dec (n : Int) (h : 0 ≤ n ∧ n ≤ 65535) : (deB (enc2 n) : Int) = n := by
  unfold enc2
  rw [de_be, IntKind.wrap_u64]
  omega
theorem enc1_dec8 (n : Int) (h : -128 ≤ n ∧ n ≤ 127) : IntKind.i8.wrap (deB (enc1 n) : Int) = n := by
  unfold enc1
  rw [de_be, IntKind.wrap_u64]
  unfold IntKind.wrap
  simp only [IntKind.bits, IntKind.signed]
  simp
  omega
theorem enc4_dec (n : Int) (h : 0 ≤ n ∧ n ≤ 4294967295) : (deB (enc4 n) : Int) = n := by
  unfold enc4
  rw [de_be]
  unfold IntKind.wrap
  simp only [IntKind.bits, IntKind.signed]
  simp
  omega
theorem enc4_dec32 (n : Int) (h : -2147483648 ≤ n ∧ n ≤ 2147483647) : IntKind.i32.wrap (deB (enc4 n) : Int) = n := by
  unfold enc4
  rw [de_be]
  unfold IntKind.wrap
  simp only [IntKind.bits, IntKind.signed]
  simp
  omega
theorem enc8_dec (n : Int) (h : 0 ≤ n ∧ n < 18446744073709551616) : (deB (enc8 n) : Int) = n := by
  unfold enc8
  rw [de_be]
  omega
theorem enc1_one (n : Int) : ∃ b : UInt8, enc1 n = [b] := by
  have := length_enc1 n
  match h : enc1 n, this with
  | [b], _ => exact ⟨b, rfl⟩
theorem i8s_enc (l : List Int) (h : ∀ x ∈ l, -128 ≤ x ∧ x ≤ 127) : i8s (l.flatMap enc1) = l := by
  induction l with
  | nil => rfl
  | cons x l ih =>
    obtain ⟨b, hb⟩ := enc1_one x
    have h1 := enc1_dec8 x (h x (by simp))
    rw [hb] at h1
    rw [List.flatMap_cons, hb]
    unfold i8s at ih ⊢
    rw [List.map_append, ih (fun y hy => h y (by simp [hy]))]
    simp only [List.map_cons, List.map_nil, List.cons_append, List.nil_append, List.cons.injEq, and_true]
    simpa [deB] using h1
theorem endErr_le (r : List UInt8) : endErr r 0 = 0 ∨ endErr r 0 = 5 := by
  unfold endErr
  split
  · exact .inr rfl
  · exact .inl rfl
theorem chk_ok (r : List UInt8) : chk ⟨0, (r, 0)⟩ true = ⟨0, (r, 0)⟩ := by
  unfold chk
  dsimp only
  rw [if_neg (by simp), if_neg (by rcases endErr_le r with h | h <;> rw [h] <;> decide), if_pos rfl]
theorem sizeGo_each : ∀ (d : List Int) (n : Int), 0 < sizeGo n d → ∀ x ∈ d, 1 ≤ x ∧ x ≤ 4096
  | [], _, _, x, hx => absurd hx (by simp)
  | y :: d, n, h, x, hx => by
    unfold sizeGo at h
    split at h
    · omega
    · rename_i h1
      rcases List.mem_cons.1 hx with rfl | hx
      · omega
      · exact sizeGo_each d _ h x hx
theorem sizeI_each {d : List Int} (h : 0 < sizeI d) : ∀ x ∈ d, 1 ≤ x ∧ x ≤ 4096 := by
  unfold sizeI at h
  split at h
  · omega
  · exact sizeGo_each d 1 h
theorem mayB_exp {d : List Int} {e : Int} {x : List Int} (h : mayB d e x = true) : -64 ≤ e ∧ e ≤ 64 := by
  unfold mayB at h
  simp only [Bool.and_eq_true, decide_eq_true_eq, beq_iff_eq, Bool.not_eq_true'] at h
  exact ⟨h.2.2.1, h.2.2.2.1⟩
theorem rdRun_ok (k : Nat) (f : List UInt8 → Int) (enc : Int → List UInt8) (hk : 0 < k) (hl : ∀ n, (enc n).length = k) (r : List UInt8) : ∀ (l acc : List Int), (∀ x ∈ l, f (enc x) = x) →
    rdRun k f l.length (acc, (l.flatMap enc ++ r, 0)) = (acc ++ l, (r, 0))
  | [], acc, _ => by simp [rdRun]
  | x :: l, acc, h => by
    rw [List.length_cons, rdRun]
    dsimp only
    rw [List.flatMap_cons, List.append_assoc, rds_ok (enc x) _ k (hl x) hk, rdt_ok (enc x) _ k (hl x) hk, h x (by simp), rdRun_ok k f enc hk hl r l _ (fun y hy => h y (by simp [hy])), List.append_assoc]
    rfl
theorem decT_ok {d : List Int} {e : Int} {x : List Int} (h : mayB d e x = true) (hx : ∀ y ∈ x, -128 ≤ y ∧ y ≤ 127) (r : List UInt8) : decT ⟨0, (encT e x ++ r, 0)⟩ d = ⟨⟨0, (r, 0)⟩, e, x⟩ := by
  obtain ⟨_, _, _, hlen, hpos⟩ := mayB_len h
  have he := mayB_exp h
  have e1 := rds_ok (enc1 e) (x.flatMap enc1 ++ r) 1 (length_enc1 _) (by omega)
  have e2 := rdt_ok (enc1 e) (x.flatMap enc1 ++ r) 1 (length_enc1 _) (by omega)
  have lx : (x.flatMap enc1).length = x.length := by rw [length_flatK enc1 1 length_enc1]; omega
  have e3 := rds_ok (x.flatMap enc1) r x.length lx (by omega)
  have e4 := rdt_ok (x.flatMap enc1) r x.length lx (by omega)
  rw [hlen] at e3 e4
  unfold decT
  have ee : encT e x ++ r = enc1 e ++ (x.flatMap enc1 ++ r) := by unfold encT; rw [List.append_assoc]
  simp only [ee]
  rw [show ((1 : Int)) = ((1 : Nat) : Int) from rfl, e1, e2]
  simp only [e3, e4]
  rw [enc1_dec8 _ (by omega), i8s_enc _ hx, h, chk_ok]
/-- the numbers are bytes -/
def bytesP (p : ParC) : Prop := (∀ x ∈ p.wx, -128 ≤ x ∧ x ≤ 127) ∧ (∀ x ∈ p.bx, -128 ≤ x ∧ x ≤ 127)
theorem mayC_parts {p : ParC} (h : mayC p = true) (hz : zeroP p = false) : mayB p.wd p.we p.wx = true ∧ (p.m.length = p.wx.length ∧ ∀ x ∈ p.m, inM x = true) ∧ mayB p.bd p.be p.bx = true ∧ p.bd.length = 1 := by
  unfold mayC at h
  rw [hz, Bool.false_or] at h
  unfold movesB at h
  simp only [Bool.and_eq_true, decide_eq_true_eq, List.all_eq_true] at h
  exact ⟨h.1, h.2.1, h.2.2.1, h.2.2.2⟩
theorem inM_of {x : Int} (h : inM x = true) : -1048576 ≤ x ∧ x ≤ 1048576 := by
  unfold inM at h
  simpa using h
theorem decP_ok {p : ParC} (h : mayC p = true) (hb : bytesP p) (r : List UInt8) : decP ⟨0, (encP p ++ r, 0)⟩ = ⟨⟨0, (r, 0)⟩, p⟩ := by
  cases hz : zeroP p with
  | true =>
    have := zeroP_eq.1 hz
    subst this
    have e0 : encP zeroC ++ r = enc1 0 ++ r := by unfold encP; rw [hz, if_pos rfl, List.append_nil]; rfl
    have e1 := rds_ok (enc1 0) r 1 (length_enc1 _) (by omega)
    have e2 := rdt_ok (enc1 0) r 1 (length_enc1 _) (by omega)
    have e3 : deB (enc1 0) = 0 := by have := enc1_dec 0 (by omega); omega
    unfold decP
    rw [e0]
    dsimp only
    rw [show ((1 : Int)) = ((1 : Nat) : Int) from rfl, e1, e2, e3, show decide (0 ≤ 4) = true from rfl, chk_ok]
    unfold decP2
    rw [if_pos (.inr rfl)]
  | false =>
    obtain ⟨h1, ⟨h2, h3⟩, h4, h5⟩ := mayC_parts h hz
    have hl := mayB_len h1
    obtain ⟨y, hy⟩ : ∃ y, p.bd = [y] := by
      match hh : p.bd, h5 with
      | [y], _ => exact ⟨y, rfl⟩
    have hbl := mayB_len h4
    have hyr := sizeI_each hbl.2.2.2.2 y (by rw [hy]; simp)
    have e0 : encP p ++ r = enc1 p.wd.length ++ (p.wd.flatMap enc2 ++ (encT p.we p.wx ++ (p.m.flatMap enc4 ++ (enc2 y ++ (encT p.be p.bx ++ r))))) := by
      unfold encP
      rw [hz, if_neg (by decide)]
      unfold encR
      rw [hy]
      simp only [List.headD_cons, List.append_assoc]
    have e1 := rds_ok (enc1 p.wd.length) (p.wd.flatMap enc2 ++ (encT p.we p.wx ++ (p.m.flatMap enc4 ++ (enc2 y ++ (encT p.be p.bx ++ r))))) 1 (length_enc1 _) (by omega)
    have e2 := rdt_ok (enc1 p.wd.length) (p.wd.flatMap enc2 ++ (encT p.we p.wx ++ (p.m.flatMap enc4 ++ (enc2 y ++ (encT p.be p.bx ++ r))))) 1 (length_enc1 _) (by omega)
    have e3 : deB (enc1 p.wd.length) = p.wd.length := by have := enc1_dec p.wd.length (by omega); omega
    have q1 := rdRun_ok 2 num2 enc2 (by omega) length_enc2 (encT p.we p.wx ++ (p.m.flatMap enc4 ++ (enc2 y ++ (encT p.be p.bx ++ r)))) p.wd [] (fun x hx => by
      have := sizeI_each hl.2.2.2.2 x hx
      exact enc2_dec x (by omega))
    rw [List.nil_append] at q1
    have q2 := decT_ok h1 hb.1 (p.m.flatMap enc4 ++ (enc2 y ++ (encT p.be p.bx ++ r)))
    have q3 := rdRun_ok 4 num4 enc4 (by omega) length_enc4 (enc2 y ++ (encT p.be p.bx ++ r)) p.m [] (fun x hx => by
      have := inM_of (h3 x hx)
      exact enc4_dec32 x (by omega))
    rw [List.nil_append, h2] at q3
    have q4 : movesB { zeroC with wx := p.wx, m := p.m } = true := by
      unfold movesB
      simp only [Bool.and_eq_true, decide_eq_true_eq, List.all_eq_true]
      exact ⟨h2, h3⟩
    have e5 := rds_ok (enc2 y) (encT p.be p.bx ++ r) 2 (length_enc2 _) (by omega)
    have e6 := rdt_ok (enc2 y) (encT p.be p.bx ++ r) 2 (length_enc2 _) (by omega)
    have e7 : num2 (enc2 y) = y := enc2_dec y (by omega)
    have q5 := decT_ok h4 hb.2 r
    rw [hy] at q5 hbl
    unfold decP
    rw [e0]
    dsimp only
    rw [show ((1 : Int)) = ((1 : Nat) : Int) from rfl, e1, e2, e3, decide_eq_true hl.2.1, chk_ok]
    unfold decP2
    rw [if_neg (by rintro (hh | hh); exact hh rfl; omega)]
    dsimp only
    rw [q1]
    dsimp only
    rw [decide_eq_true hl.2.2.2.2, chk_ok]
    unfold decP3
    rw [if_neg (by simp), q2]
    unfold decP4
    rw [if_neg (by simp)]
    dsimp only
    rw [q3]
    dsimp only
    rw [q4, chk_ok]
    unfold decP5
    rw [if_neg (by simp)]
    dsimp only
    rw [show ((2 : Int)) = ((2 : Nat) : Int) from rfl, e5, e6, e7, decide_eq_true hbl.2.2.2.2, chk_ok]
    unfold decP6
    rw [if_neg (by simp), q5]
    obtain ⟨a1, a2, a3, a4, a5, a6, a7⟩ := p
    dsimp only at hy ⊢
    rw [hy]
theorem decRun_ok (r : List UInt8) : ∀ (cs acc : List ParC), (∀ p ∈ cs, mayC p = true ∧ bytesP p) → decRun cs.length ⟨⟨0, (cs.flatMap encP ++ r, 0)⟩, acc⟩ = ⟨⟨0, (r, 0)⟩, acc ++ cs⟩
  | [], acc, _ => by simp [decRun]
  | p :: cs, acc, h => by
    obtain ⟨h1, h2⟩ := h p (by simp)
    rw [List.length_cons, decRun, if_pos rfl, List.flatMap_cons, List.append_assoc]
    unfold decStep
    dsimp only
    rw [decP_ok h1 h2, decRun_ok r cs _ (fun q hq => h q (by simp [hq])), List.append_assoc]
    rfl
/-- a state's numbers -/
def okN (seed step : Int) (cs : List ParC) : Prop := (0 ≤ seed ∧ seed < 18446744073709551616) ∧ (0 ≤ step ∧ step ≤ 1000000) ∧ cs.length ≤ 12 ∧ ∀ p ∈ cs, mayC p = true ∧ bytesP p
theorem decHead_ok {seed step : Int} {cs : List ParC} (h : okN seed step cs) (r : List UInt8) : ∃ (a b : Nat), decHead (encH seed step cs.length ++ r) = ⟨⟨0, (r, 0)⟩, a, b, cs.length⟩ ∧ (a : Int) = seed ∧ (b : Int) = step := by
  obtain ⟨h1, h2, h3, _⟩ := h
  have e0 : encH seed step cs.length ++ r = beginB ++ (enc8 seed ++ (enc4 step ++ (enc1 cs.length ++ r))) := by unfold encH beginB; simp
  have a1 := rds_ok beginB (enc8 seed ++ (enc4 step ++ (enc1 cs.length ++ r))) 4 rfl (by omega)
  have a2 := rdt_ok beginB (enc8 seed ++ (enc4 step ++ (enc1 cs.length ++ r))) 4 rfl (by omega)
  have b1 := rds_ok (enc8 seed) (enc4 step ++ (enc1 cs.length ++ r)) 8 (length_enc8 _) (by omega)
  have b2 := rdt_ok (enc8 seed) (enc4 step ++ (enc1 cs.length ++ r)) 8 (length_enc8 _) (by omega)
  have c1 := rds_ok (enc4 step) (enc1 cs.length ++ r) 4 (length_enc4 _) (by omega)
  have c2 := rdt_ok (enc4 step) (enc1 cs.length ++ r) 4 (length_enc4 _) (by omega)
  have d1 := rds_ok (enc1 cs.length) r 1 (length_enc1 _) (by omega)
  have d2 := rdt_ok (enc1 cs.length) r 1 (length_enc1 _) (by omega)
  have e1 := enc8_dec seed h1
  have e2 := enc4_dec step (by omega)
  have e3 : deB (enc1 cs.length) = cs.length := by have := enc1_dec cs.length (by omega); omega
  have e4 : decide (deB (enc4 step) ≤ 1000000) = true := decide_eq_true (by omega)
  have e5 : decide (cs.length ≤ 12) = true := decide_eq_true h3
  have i1 : ((1 : Nat) : Int) = 1 := rfl
  have i4 : ((4 : Nat) : Int) = 4 := rfl
  have i8 : ((8 : Nat) : Int) = 8 := rfl
  rw [i1] at d1 d2
  rw [i4] at a1 a2 c1 c2
  rw [i8] at b1 b2
  refine ⟨deB (enc8 seed), deB (enc4 step), ?_, e1, e2⟩
  unfold decHead
  rw [e0]
  dsimp only
  simp only [a1, a2, beq_self_eq_true, chk_ok, b1, b2, c1, c2, e4, d1, d2, e3, e5]
theorem decode_ok {seed step : Int} {cs : List ParC} (h : okN seed step cs) (r : List UInt8) : decode (encC seed step cs ++ r) = if r = [] then (0, seed, step, cs) else (5, 0, 0, []) := by
  obtain ⟨a, b, h1, h2, h3⟩ := decHead_ok h (cs.flatMap encP ++ r)
  have e0 : encC seed step cs ++ r = encH seed step cs.length ++ (cs.flatMap encP ++ r) := by unfold encC; rw [List.append_assoc]
  have hf : decFin (encC seed step cs ++ r) = ⟨⟨0, (r, 0)⟩, cs⟩ := by
    unfold decFin
    rw [e0, h1]
    dsimp only
    rw [decRun_ok r cs [] h.2.2.2]
    rfl
  unfold decode
  rw [hf, e0, h1]
  unfold decEnd endErr
  dsimp only
  rw [if_pos rfl, h2, h3]
  by_cases hr : r = []
  · subst hr
    simp
  · have : 0 < r.length := by cases r with | nil => exact absurd rfl hr | cons _ _ => simp
    simp [hr, this]
end Go.Proofs.Ytcjpibdgnjncmaa
