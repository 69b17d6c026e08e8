/- Plain laws of states as bytes: what is read is written as those bytes. -/
import Derived.Test.YtcjpibdgnjncmaaCodBackP
namespace Go.Proofs.Ytcjpibdgnjncmaa
open Go.RowKit
set_option linter.unusedVariables false
set_option linter.unusedSimpArgs false

theorem be_de (l : List UInt8) : beB (deB l) l.length = l := by
  obtain ⟨n, hn⟩ : ∃ n, l.length = n := ⟨_, rfl⟩
  induction n generalizing l with
  | zero => rw [List.eq_nil_of_length_eq_zero hn]; rfl
  | succ n ih =>
    rcases List.eq_nil_or_concat l with h | ⟨l', c, rfl⟩
    · subst h; simp at hn
    · rw [List.concat_eq_append] at hn ⊢
      rw [List.length_append, List.length_singleton] at hn ⊢
      have hc : c.toNat < 256 := c.toNat_lt
      rw [deB_snoc, beB_succ, show (deB l' * 256 + c.toNat) / 256 = deB l' by omega, show (deB l' * 256 + c.toNat) % 256 = c.toNat by omega, ih l' (by omega)]
      simp
theorem enc1_of (l : List UInt8) (h : l.length = 1) : enc1 (deB l : Int) = l := by
  have h1 := deB_lt 1 l h
  rw [show (256 : Nat) ^ 1 = 256 from rfl] at h1
  have h2 : (IntKind.u64.wrap (deB l : Int)).toNat = deB l := by rw [IntKind.wrap_u64]; omega
  unfold enc1
  rw [h2, ← h, be_de]
theorem enc1_of8 (l : List UInt8) (h : l.length = 1) : enc1 (IntKind.i8.wrap (deB l : Int)) = l := by
  have h1 := deB_lt 1 l h
  rw [show (256 : Nat) ^ 1 = 256 from rfl] at h1
  have h2 : (IntKind.u64.wrap (IntKind.i8.wrap (deB l : Int))).toNat % 256 ^ 1 = deB l := by
    rw [IntKind.wrap_u64]
    unfold IntKind.wrap
    simp only [IntKind.bits, IntKind.signed]
    simp
    omega
  unfold enc1
  rw [← beB_mod _ 1 1 (Nat.le_refl _), h2]
  have := be_de l
  rwa [h] at this
theorem enc2_of (l : List UInt8) (h : l.length = 2) : enc2 (deB l : Int) = l := by
  have h1 := deB_lt 2 l h
  rw [show (256 : Nat) ^ 2 = 65536 from rfl] at h1
  have h2 : (IntKind.u64.wrap (deB l : Int)).toNat = deB l := by rw [IntKind.wrap_u64]; omega
  unfold enc2
  rw [h2, ← h, be_de]
theorem enc4_of (l : List UInt8) (h : l.length = 4) : enc4 (deB l : Int) = l := by
  have h1 := deB_lt 4 l h
  rw [show (256 : Nat) ^ 4 = 4294967296 from rfl] at h1
  have h2 : (IntKind.u32.wrap (deB l : Int)).toNat = deB l := by
    unfold IntKind.wrap
    simp only [IntKind.bits, IntKind.signed]
    simp
    omega
  unfold enc4
  rw [h2, ← h, be_de]
theorem enc4_of32 (l : List UInt8) (h : l.length = 4) : enc4 (IntKind.i32.wrap (deB l : Int)) = l := by
  have h1 := deB_lt 4 l h
  rw [show (256 : Nat) ^ 4 = 4294967296 from rfl] at h1
  have h2 : (IntKind.u32.wrap (IntKind.i32.wrap (deB l : Int))).toNat = deB l := by
    unfold IntKind.wrap
    simp only [IntKind.bits, IntKind.signed]
    simp
    omega
  unfold enc4
  rw [h2, ← h, be_de]
theorem enc8_of (l : List UInt8) (h : l.length = 8) : enc8 (deB l : Int) = l := by
  unfold enc8
  rw [Int.toNat_natCast, ← h, be_de]
theorem deB_one (b : UInt8) : deB [b] = b.toNat := by simp [deB]
theorem flat_i8s (l : List UInt8) : (i8s l).flatMap enc1 = l := by
  induction l with
  | nil => rfl
  | cons x l ih =>
    unfold i8s at ih ⊢
    have h := enc1_of8 [x] rfl
    rw [deB_one] at h
    rw [List.map_cons, List.flatMap_cons, ih, h]
    rfl
theorem rd_inv {s : RdV} {n : Int} (hn : 0 ≤ n) (h : (rds s n).2 = 0) : s.2 = 0 ∧ (rdt s n).length = n.toNat ∧ s.1 = rdt s n ++ (rds s n).1 := by
  obtain ⟨l, e⟩ := s
  unfold rds rdt takeErr takeOut takeLeft at *
  simp only at h ⊢
  by_cases h1 : e ≠ 0 ∨ n ≤ 0
  · rw [if_pos h1] at h
    rw [if_pos h1, if_pos h1]
    refine ⟨h, ?_, rfl⟩
    rcases h1 with h1 | h1
    · exact absurd h h1
    · simp; omega
  · rw [if_neg h1] at h
    rw [if_neg h1, if_neg h1]
    by_cases h2 : (l.length : Int) < n
    · rw [if_pos h2] at h; omega
    · rw [if_neg h2, if_neg h2]
      rw [if_neg h2] at h
      refine ⟨h, ?_, (List.take_append_drop _ _).symm⟩
      rw [List.length_take]
      omega
theorem chk_inv {z : CS} {ok : Bool} (h : (chk z ok).e = 0) : z.e = 0 ∧ ok = true := by
  unfold chk at h
  dsimp only at h
  by_cases h1 : z.e = 0
  · rw [if_neg (by omega)] at h
    split at h
    · omega
    · cases ok with
      | true => exact ⟨h1, rfl⟩
      | false => simp at h
  · rw [if_pos h1] at h
    exact absurd h h1
theorem rdRun_inv (k : Nat) (f : List UInt8 → Int) (enc : Int → List UInt8) (hof : ∀ l : List UInt8, l.length = k → enc (f l) = l) : ∀ (n : Nat) (acc : List Int) (s : RdV), (rdRun k f n (acc, s)).2.2 = 0 →
    s.2 = 0 ∧ ∃ l : List Int, (rdRun k f n (acc, s)).1 = acc ++ l ∧ l.length = n ∧ s.1 = l.flatMap enc ++ (rdRun k f n (acc, s)).2.1
  | 0, acc, s, h => ⟨h, [], by simp [rdRun], rfl, by simp [rdRun]⟩
  | n + 1, acc, s, h => by
    rw [rdRun] at h ⊢
    dsimp only at h ⊢
    obtain ⟨h1, l, h2, h3, h4⟩ := rdRun_inv k f enc hof n _ _ h
    obtain ⟨g1, g2, g3⟩ := rd_inv (by omega) h1
    refine ⟨g1, f (rdt s k) :: l, ?_, by simp [h3], ?_⟩
    · rw [h2]; simp
    · rw [List.flatMap_cons, hof _ (by simpa using g2), List.append_assoc, ← h4, ← g3]
theorem decT_inv {z : CS} {d : List Int} (h : (decT z d).z.e = 0) (hs : (decT z d).z.s.2 = 0) : z.e = 0 ∧ z.s.2 = 0 ∧ mayB d (decT z d).e (decT z d).x = true ∧ z.s.1 = encT (decT z d).e (decT z d).x ++ (decT z d).z.s.1 := by
  unfold decT at h hs ⊢
  dsimp only at h hs ⊢
  obtain ⟨h1, h2⟩ := chk_inv h
  dsimp only at h1
  rw [chk_s] at hs ⊢
  dsimp only at hs ⊢
  have hp := sizeI_bound d
  obtain ⟨a1, a2, a3⟩ := rd_inv (by omega) hs
  obtain ⟨b1, b2, b3⟩ := rd_inv (by omega) a1
  refine ⟨h1, b1, h2, ?_⟩
  unfold encT
  rw [flat_i8s, enc1_of8 _ (by simpa using b2), List.append_assoc, ← a3, ← b3]
theorem decT_x' (z : CS) (d : List Int) : ∀ x ∈ (decT z d).x, -128 ≤ x ∧ x ≤ 127 := i8s_in _
theorem num2_enc (l : List UInt8) (h : l.length = 2) : enc2 (num2 l) = l := enc2_of l h
theorem num4_enc (l : List UInt8) (h : l.length = 4) : enc4 (num4 l) = l := enc4_of32 l h
theorem decP_inv {z : CS} (h : (decP z).z.e = 0) (hs : (decP z).z.s.2 = 0) : z.e = 0 ∧ z.s.2 = 0 ∧ mayC (decP z).p = true ∧ bytesP (decP z).p ∧ z.s.1 = encP (decP z).p ++ (decP z).z.s.1 := by
  unfold decP at h hs ⊢
  obtain ⟨z1, hz1⟩ : ∃ z1, chk ⟨z.e, rds z.s 1⟩ (decide (deB (rdt z.s 1) ≤ 4)) = z1 := ⟨_, rfl⟩
  obtain ⟨n, hn⟩ : ∃ n, deB (rdt z.s 1) = n := ⟨_, rfl⟩
  have hs1 : z1.s = rds z.s 1 := by rw [← hz1]; rfl
  rw [hz1, hn] at h hs ⊢
  have key : z1.e = 0 ∧ z1.s.2 = 0 ∧ mayC (decP2 z1 n).p = true ∧ bytesP (decP2 z1 n).p ∧ (decP2 z1 n).p.wd.length = n ∧ enc1 n ++ z1.s.1 = encP (decP2 z1 n).p ++ (decP2 z1 n).z.s.1 := by
    by_cases hq : z1.e ≠ 0 ∨ n = 0
    · have e2 : decP2 z1 n = ⟨z1, zeroC⟩ := by unfold decP2; rw [if_pos hq]
      rw [e2] at h hs ⊢
      dsimp only at h hs ⊢
      have hn0 : n = 0 := by rcases hq with hq | hq; exact absurd h hq; exact hq
      subst hn0
      have hzz : zeroP zeroC = true := rfl
      refine ⟨h, hs, by unfold mayC; rw [hzz]; rfl, ⟨by simp [zeroC], by simp [zeroC]⟩, rfl, ?_⟩
      unfold encP
      rw [hzz, if_pos rfl, List.append_nil]
      rfl
    · have hn0 : n ≠ 0 := fun e => hq (.inr e)
      have hz0 : z1.e = 0 := by omega
      have e2 : decP2 z1 n = decP3 (chk ⟨z1.e, (rdRun 2 num2 n ([], z1.s)).2⟩ (decide (0 < sizeI (rdRun 2 num2 n ([], z1.s)).1))) (rdRun 2 num2 n ([], z1.s)).1 := by unfold decP2; rw [if_neg hq]
      rw [e2] at h hs ⊢
      clear e2
      have hri := rdRun_inv 2 num2 enc2 num2_enc n [] z1.s
      have hrl := (rdRun_len 2 num2 n ([], z1.s)).1
      generalize rdRun 2 num2 n ([], z1.s) = R at h hs hri hrl ⊢
      obtain ⟨dl, r2⟩ := R
      dsimp only at h hs hri hrl ⊢
      obtain ⟨z2, hz2⟩ : ∃ z2, chk ⟨z1.e, r2⟩ (decide (0 < sizeI dl)) = z2 := ⟨_, rfl⟩
      have hs2 : z2.s = r2 := by rw [← hz2]; rfl
      rw [hz2] at h hs ⊢
      by_cases he2 : z2.e = 0
      · have hpos := (chk_inv (by rw [hz2]; exact he2)).2
        have e3 : decP3 z2 dl = decP4 dl (decT z2 dl) := by unfold decP3; rw [if_neg (by omega)]
        rw [e3] at h hs ⊢
        clear e3
        have hti := @decT_inv z2 dl
        have htx := decT_x' z2 dl
        generalize decT z2 dl = t at h hs hti htx ⊢
        by_cases he3 : t.z.e = 0
        · have e4 : decP4 dl t = decP5 dl t (rdRun 4 num4 t.x.length ([], t.z.s)).1 (chk ⟨t.z.e, (rdRun 4 num4 t.x.length ([], t.z.s)).2⟩ (movesB { zeroC with wx := t.x, m := (rdRun 4 num4 t.x.length ([], t.z.s)).1 })) := by unfold decP4; rw [if_neg (by omega)]
          rw [e4] at h hs ⊢
          clear e4
          have hmi := rdRun_inv 4 num4 enc4 num4_enc t.x.length [] t.z.s
          generalize rdRun 4 num4 t.x.length ([], t.z.s) = M at h hs hmi ⊢
          obtain ⟨ml, r4⟩ := M
          dsimp only at h hs hmi ⊢
          obtain ⟨z4, hz4⟩ : ∃ z4, chk ⟨t.z.e, r4⟩ (movesB { zeroC with wx := t.x, m := ml }) = z4 := ⟨_, rfl⟩
          have hs4 : z4.s = r4 := by rw [← hz4]; rfl
          rw [hz4] at h hs ⊢
          by_cases he4 : z4.e = 0
          · have hmv := (chk_inv (by rw [hz4]; exact he4)).2
            have e5 : decP5 dl t ml z4 = decP6 dl t ml (chk ⟨z4.e, rds z4.s 2⟩ (decide (0 < sizeI [num2 (rdt z4.s 2)]))) (num2 (rdt z4.s 2)) := by unfold decP5; rw [if_neg (by omega)]
            rw [e5] at h hs ⊢
            clear e5
            obtain ⟨z5, hz5⟩ : ∃ z5, chk ⟨z4.e, rds z4.s 2⟩ (decide (0 < sizeI [num2 (rdt z4.s 2)])) = z5 := ⟨_, rfl⟩
            have hs5 : z5.s = rds z4.s 2 := by rw [← hz5]; rfl
            rw [hz5] at h hs ⊢
            by_cases he5 : z5.e = 0
            · have e6 : decP6 dl t ml z5 (num2 (rdt z4.s 2)) = ⟨(decT z5 [num2 (rdt z4.s 2)]).z, ⟨dl, t.e, t.x, ml, [num2 (rdt z4.s 2)], (decT z5 [num2 (rdt z4.s 2)]).e, (decT z5 [num2 (rdt z4.s 2)]).x⟩⟩ := by unfold decP6; rw [if_neg (by omega)]
              rw [e6] at h hs ⊢
              clear e6
              dsimp only at h hs ⊢
              have hbx := decT_x' z5 [num2 (rdt z4.s 2)]
              obtain ⟨_, k2, k3, k4⟩ := decT_inv h hs
              rw [hs5] at k2 k4
              obtain ⟨j1, j2, j3⟩ := rd_inv (by omega) k2
              rw [hs4] at j1
              obtain ⟨i1, mm, i2, i3, i4⟩ := hmi j1
              rw [List.nil_append] at i2
              subst i2
              obtain ⟨_, f2, f3, f4⟩ := hti he3 i1
              rw [hs2] at f2 f4
              obtain ⟨g1, dd, g2, g3, g4⟩ := hri f2
              rw [List.nil_append] at g2
              subst g2
              have hdl := mayB_len f3
              have hz : zeroP ⟨dl, t.e, t.x, ml, [num2 (rdt z4.s 2)], (decT z5 [num2 (rdt z4.s 2)]).e, (decT z5 [num2 (rdt z4.s 2)]).x⟩ = false := by
                unfold zeroP lenP
                rw [decide_eq_false (by dsimp only; omega)]
                rfl
              have hmv2 : movesB ⟨dl, t.e, t.x, ml, [num2 (rdt z4.s 2)], (decT z5 [num2 (rdt z4.s 2)]).e, (decT z5 [num2 (rdt z4.s 2)]).x⟩ = true := hmv
              refine ⟨hz0, g1, ?_, ⟨htx, hbx⟩, g3, ?_⟩
              · unfold mayC
                rw [hz, hmv2]
                dsimp only
                rw [f3, k3]
                rfl
              · unfold encP
                rw [hz, if_neg (by decide)]
                unfold encR
                dsimp only
                rw [g3]
                simp only [List.headD_cons, List.append_assoc]
                rw [← k4, num2_enc _ (by simpa using j2), ← j3, hs4, ← i4, ← f4, ← g4]
            · have e6 : decP6 dl t ml z5 (num2 (rdt z4.s 2)) = ⟨z5, zeroC⟩ := by unfold decP6; rw [if_pos he5]
              rw [e6] at h
              exact absurd h he5
          · have e5 : decP5 dl t ml z4 = ⟨z4, zeroC⟩ := by unfold decP5; rw [if_pos he4]
            rw [e5] at h
            exact absurd h he4
        · have e4 : decP4 dl t = ⟨t.z, zeroC⟩ := by unfold decP4; rw [if_pos he3]
          rw [e4] at h
          exact absurd h he3
      · have e3 : decP3 z2 dl = ⟨z2, zeroC⟩ := by unfold decP3; rw [if_pos he2]
        rw [e3] at h
        exact absurd h he2
  obtain ⟨k1, k2, k3, k4, k5, k6⟩ := key
  have hz0 := (chk_inv (by rw [hz1]; exact k1)).1
  rw [hs1] at k2 k6
  obtain ⟨a1, a2, a3⟩ := rd_inv (by omega) k2
  refine ⟨hz0, a1, k3, k4, ?_⟩
  rw [← k6, ← hn, enc1_of _ (by simpa using a2), ← a3]
theorem decRun_inv : ∀ (n : Nat) (d : DSt), (decRun n d).z.e = 0 → (decRun n d).z.s.2 = 0 →
    d.z.e = 0 ∧ d.z.s.2 = 0 ∧ ∃ cs : List ParC, (decRun n d).ps = d.ps ++ cs ∧ cs.length = n ∧ (∀ p ∈ cs, mayC p = true ∧ bytesP p) ∧ d.z.s.1 = cs.flatMap encP ++ (decRun n d).z.s.1
  | 0, d, h, hs => ⟨h, hs, [], by simp [decRun], rfl, by simp, by simp [decRun]⟩
  | n + 1, d, h, hs => by
    rw [decRun] at h hs ⊢
    by_cases h0 : d.z.e = 0
    · rw [if_pos h0] at h hs ⊢
      obtain ⟨a1, a2, cs, a3, a4, a5, a6⟩ := decRun_inv n (decStep d) h hs
      unfold decStep at a1 a2 a3 a6
      dsimp only at a1 a2 a3 a6
      obtain ⟨_, b2, b3, b4, b5⟩ := decP_inv a1 a2
      refine ⟨h0, b2, (decP d.z).p :: cs, ?_, by simp [a4], ?_, ?_⟩
      · unfold decStep
        rw [a3]
        simp
      · intro p hp
        rcases List.mem_cons.1 hp with rfl | hp
        · exact ⟨b3, b4⟩
        · exact a5 p hp
      · rw [List.flatMap_cons, List.append_assoc, b5, a6]
        rfl
    · rw [if_neg h0] at h
      exact absurd h h0
theorem endErr_zero {l : List UInt8} {e : Int} (h : endErr l e = 0) : e = 0 ∧ l = [] := by
  unfold endErr at h
  by_cases h1 : e = 0 ∧ 0 < l.length
  · rw [if_pos h1] at h; omega
  · rw [if_neg h1] at h
    refine ⟨h, List.eq_nil_of_length_eq_zero ?_⟩
    omega
theorem decode_some {bs : List UInt8} (h : (decode bs).1 = 0) : decEnd (decFin bs) = 0 ∧ decode bs = (0, ((decHead bs).seed : Int), ((decHead bs).step : Int), (decFin bs).ps) := by
  unfold decode at h ⊢
  by_cases h2 : decEnd (decFin bs) = 0
  · exact ⟨h2, if_pos h2⟩
  · rw [if_neg h2] at h
    exact absurd h h2
theorem decode_inv {bs : List UInt8} (h : (decode bs).1 = 0) : okN (decode bs).2.1 (decode bs).2.2.1 (decode bs).2.2.2 ∧ encC (decode bs).2.1 (decode bs).2.2.1 (decode bs).2.2.2 = bs := by
  obtain ⟨he, hd⟩ := decode_some h
  rw [hd]
  dsimp only
  have hz : (decFin bs).z.e = 0 := by
    unfold decEnd at he
    by_cases h1 : (decFin bs).z.e = 0
    · exact h1
    · rw [if_neg h1] at he; exact he
  unfold decEnd at he
  rw [if_pos hz] at he
  obtain ⟨he, hl⟩ := endErr_zero he
  unfold decFin at hz he hl ⊢
  obtain ⟨a1, a2, cs, a3, a4, a5, a6⟩ := decRun_inv _ _ hz he
  rw [hl, List.append_nil] at a6
  rw [a3]
  dsimp only at a1 a2 a6 ⊢
  rw [List.nil_append]
  unfold decHead at a1 a2 a4 a6 ⊢
  dsimp only at a1 a2 a4 a6 ⊢
  obtain ⟨b1, b2⟩ := chk_inv a1
  dsimp only at b1
  rw [chk_s] at a2 a6
  dsimp only at a2 a6
  obtain ⟨c1, c2⟩ := chk_inv b1
  dsimp only at c1
  obtain ⟨d1, d2⟩ := chk_inv c1
  rw [chk_s] at a2 a4 a6 b2 ⊢
  dsimp only at a2 a4 a6 b2 ⊢
  obtain ⟨e3, l3, r3⟩ := rd_inv (by omega) a2
  obtain ⟨e2, l2, r2⟩ := rd_inv (by omega) e3
  obtain ⟨e1, l1, r1⟩ := rd_inv (by omega) e2
  obtain ⟨_, l0, r0⟩ := rd_inv (by omega) e1
  (try simp only [chk_s] at l3)
  (try simp only [chk_s] at r3)
  (try simp only [chk_s] at l2)
  (try simp only [chk_s] at r2)
  (try simp only [chk_s] at l1)
  (try simp only [chk_s] at r1)
  (try simp only [chk_s] at b2)
  (try simp only [chk_s] at c2)
  (try simp only [chk_s] at a6)
  (try simp only [chk_s] at a4)
  (try dsimp only at r0)
  (try simp only [chk_s])
  have hb : rdt (bs, 0) 4 = beginB := by simpa using d2
  have hst := of_decide_eq_true c2
  have hnn := of_decide_eq_true b2
  have hsd := deB_u64 (rds (bs, 0) 4)
  refine ⟨⟨⟨by omega, by omega⟩, ⟨by omega, by omega⟩, by omega, a5⟩, ?_⟩
  unfold encC encH
  rw [a4]
  conv => rhs; rw [r0, r1, r2, r3, a6, hb]
  rw [enc8_of _ (by simpa using l1), enc4_of _ (by simpa using l2), enc1_of _ (by simpa using l3)]
  simp [beginB]
theorem decode_none {bs : List UInt8} (h : (decode bs).1 ≠ 0) : (decode bs).2.1 = 0 ∧ (decode bs).2.2.1 = 0 ∧ (decode bs).2.2.2 = [] := by
  unfold decode at h ⊢
  by_cases h2 : decEnd (decFin bs) = 0
  · rw [if_pos h2] at h; exact absurd rfl h
  · rw [if_neg h2]; exact ⟨rfl, rfl, rfl⟩
theorem length_encC (seed step : Int) (cs : List ParC) : 17 ≤ (encC seed step cs).length := by
  unfold encC
  rw [List.length_append, length_encH]
  omega
/-- of bytes that are one short there is no state -/
theorem decode_short {seed step : Int} {cs : List ParC} (hm : okN seed step cs) : (decode (encC seed step cs).dropLast).1 ≠ 0 := by
  intro h
  obtain ⟨h1, h2⟩ := decode_inv h
  have hne : encC seed step cs ≠ [] := by
    intro e
    have h3 := length_encC seed step cs
    rw [e] at h3
    simp at h3
  have hdl := List.dropLast_concat_getLast hne
  have h3 := decode_ok h1 [(encC seed step cs).getLast hne]
  rw [h2, hdl] at h3
  have h4 := decode_ok hm []
  rw [List.append_nil, if_pos rfl] at h4
  rw [if_neg (by simp), h4] at h3
  injection h3 with h3
  omega
/-- unlike states have unlike bytes -/
theorem encC_inj {sd sp sd' sp' : Int} {cs cs' : List ParC} (h : okN sd sp cs) (h' : okN sd' sp' cs') (e : encC sd sp cs = encC sd' sp' cs') : sd = sd' ∧ sp = sp' ∧ cs = cs' := by
  have h1 := decode_ok h []
  have h2 := decode_ok h' []
  rw [e, h2] at h1
  simp only [if_true, Prod.mk.injEq] at h1
  exact ⟨h1.2.1.symm, h1.2.2.1.symm, h1.2.2.2.symm⟩
end Go.Proofs.Ytcjpibdgnjncmaa
