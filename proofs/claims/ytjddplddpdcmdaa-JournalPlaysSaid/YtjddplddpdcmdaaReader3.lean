/- Contracts of octet.Reader's methods, and of those on nil. -/
import Derived.Test.YtjddplddpdcmdaaReader2
namespace Go.Proofs.Ytjddplddpdcmdaa
open Go.RowKit
set_option linter.unusedVariables false
set_option linter.unusedSimpArgs false

theorem deB_256 (bs : List UInt8) (e : Int) (n : Nat) : deB (takeOut bs e n) < 256 ^ n := by
  have h1 := takeOut_len bs e n
  have h2 := deB_lt _ (takeOut bs e n) rfl
  have h3 : 256 ^ (takeOut bs e n).length ≤ 256 ^ n := Nat.pow_le_pow_right (by omega) h1
  omega

theorem ru32_any (w : World) (p : Nat) (A : Option Addr) (c : Nat) (bs : List UInt8) (e : Int) (h : Rd 97 w p A c bs e) (hl : bs.length ≤ 140737488355328) :
    Calls Try.prog 51 #[.pointer (some ⟨p, 0, none⟩)] w (Read 97 w p A (.int .u32 (deB (takeOut bs e 4))) (takeLeft bs e 4) (takeErr bs e 4)) := by
  have hb := deB_256 bs e 4
  rw [show (256 : Nat) ^ 4 = 4294967296 from by decide] at hb
  have hN := number_any w p A c bs e 4 (by omega) h hl
  revert hb hN
  generalize takeOut bs e (4 : Nat) = out
  intro hb hN
  have HN := Lib.hid hN
  clear hN h
  go_enter Try.func51, Try.ntmps51
  go_wp2_with fail
  refine HN.out.mono ?_
  rintro en w1 ⟨rfl, hq⟩
  have HQ := Lib.hid hq
  clear hq
  go_wp2_with fail
  go_ret
  exact ⟨rfl, HQ.out⟩

theorem rraw_any (w : World) (p : Nat) (A : Option Addr) (c : Nat) (bs : List UInt8) (e n : Int) (h : Rd 97 w p A c bs e) (hl : bs.length ≤ 140737488355328) :
    Calls Try.prog 50 #[.pointer (some ⟨p, 0, none⟩), .int .i64 n] w (Took 97 w p A (takeOut bs e n) (takeLeft bs e n) (takeErr bs e n)) := by
  have hN := take_any w p A c bs e n h hl
  revert hN
  generalize takeOut bs e n = out
  generalize takeLeft bs e n = left
  generalize takeErr bs e n = err
  intro hN
  have HN := Lib.hid hN
  clear hN h
  go_enter Try.func50, Try.ntmps50
  go_wp2_with fail
  refine HN.out.mono ?_
  rintro en w1 ⟨A1, c1, B, c2, rfl, hq⟩
  have HQ := Lib.hid hq
  clear hq
  go_wp2_with fail
  go_ret
  exact ⟨A1, c1, B, c2, rfl, HQ.out⟩
/-- End's answer -/
def endErr (bs : List UInt8) (e : Int) : Int := if e = 0 ∧ 0 < bs.length then 5 else e
/-- a new reader of these bytes -/
def NewRd (T : TypeId) (w : World) (bs : List UInt8) (en : Ending) (w' : World) : Prop :=
  ∃ p A c, en = .returned (.pointer (some ⟨p, 0, none⟩)) ∧ Rd T w' p A c bs 0 ∧ w.heap.size ≤ p ∧ Hid (∀ a, A = some a → w.heap.size ≤ a.block) ∧ Below w.heap.size w w'
theorem newreader_any (w : World) (B : Nat) (v : Value) (bs : List UInt8) (h : Reads w B v (bytesV bs)) (hB : B ≤ w.heap.size) (hl : bs.length ≤ 140737488355328) :
    Calls Try.prog 49 #[v] w (NewRd 97 w bs) := by
  obtain ⟨A0, n, c, rfl, hln, hc, hm, hat⟩ := h
  have h : Reads w B (.slice A0 n c) (bytesV bs) := ⟨A0, n, c, rfl, hln, hc, hm, hat⟩
  have HH := Lib.hid h
  clear h hat hln
  go_enter Try.func49, Try.ntmps49
  go_wp2_with fail
  refine (clone_any w B _ bs HH.out hB hl).mono ?_
  rintro e w1 ⟨A1, c1, rfl, hown, hb1⟩
  have hrd := Reads.of_own hown
  have hl2 := hown.lt
  have HO := Lib.hid hown
  have HR := Lib.hid hrd
  have HL := Lib.hid hl2
  have HB := Lib.hid hb1
  clear hown hrd hl2 hb1
  go_wp2_with fail
  go_ret
  refine ⟨w1.heap.size, A1, c1, rfl, ⟨Blk.fresh w1 97 [.slice A1 bs.length c1, .int .i64 0], ?_, Lib.hid (fun _ => ?_)⟩, HB.out.size, Lib.hid ?_, HB.out.alloc HB.out.size _⟩
  · exact (HR.out.alloc (Nat.le_refl _) _).more (by simp)
  · intro a ha
    subst ha
    have := (HL.out a.block rfl).2
    omega
  · intro a ha
    subst ha
    exact (HL.out a.block rfl).1
/-- the reference's reader takes bytes -/
theorem rtake_short (w : World) (p : Nat) (A : Option Addr) (c : Nat) (bs : List UInt8) (e n : Int) (h : Rd 84 w p A c bs e) (hx : e ≠ 0 ∨ (bs.length : Int) < max 0 n) :
    Calls Try.prog 41 #[.pointer (some ⟨p, 0, none⟩), .int .i64 n] w (Took 84 w p A [] [] 4) := by
  have hc0 : w.cell? ⟨p, 0, none⟩ = some (.slice A bs.length c) := h.blk.cell 0
  have hc1 : w.cell? ⟨p, 1, none⟩ = some (.int .i64 e) := h.blk.cell 1
  have hf0 := h.blk.free 0
  have hf1 := h.blk.free 1
  by_cases he : e = 0
  · subst he
    have hn : (bs.length : Int) < n := by
      rcases hx with hx | hx
      · exact absurd rfl hx
      · omega
    have hmx : max 0 n = n := by omega
    have t2 : decide ((bs.length : Int) < n) = true := by simpa using hn
    go_enter Try.func41, Try.ntmps41
    go_wp2
    go_ret
    have hoff : Off (fun i => i = p) w ((w.setCell ⟨p, 1, none⟩ (.int .i64 4)).setCell ⟨p, 0, none⟩ (.slice none 0 0)) :=
      ((Off.refl (fun i => i = p) w).setCell (p := ⟨p, 1, none⟩) (.inl rfl) _).setCell (p := ⟨p, 0, none⟩) (.inl rfl) _
    exact ⟨none, 0, none, 0, rfl, World.ownsRow_nil _ _ _ _, ⟨(h.blk.put 1 _).put 0 _, Reads.nil_ _ _, Lib.hid (by intro h0 a ha; cases ha)⟩, (by intro a ha; cases ha), hoff⟩
  · have t1 : (e != 0) = true := by simpa using he
    have HH := Lib.hid h
    clear h hx
    go_enter Try.func41, Try.ntmps41
    go_wp2
    all_goals
      go_ret
      have hoff : Off (fun i => i = p) w ((w.setCell ⟨p, 1, none⟩ (.int .i64 4)).setCell ⟨p, 0, none⟩ (.slice none 0 0)) :=
        ((Off.refl (fun i => i = p) w).setCell (p := ⟨p, 1, none⟩) (.inl rfl) _).setCell (p := ⟨p, 0, none⟩) (.inl rfl) _
      exact ⟨none, 0, none, 0, rfl, World.ownsRow_nil _ _ _ _, ⟨(HH.out.blk.put 1 _).put 0 _, Reads.nil_ _ _, Lib.hid (by intro h0 a ha; cases ha)⟩, (by intro a ha; cases ha), hoff⟩

theorem rtake_zero (w : World) (p : Nat) (A : Option Addr) (c : Nat) (bs : List UInt8) (n : Int) (h : Rd 84 w p A c bs 0) (hn : n ≤ 0) :
    Calls Try.prog 41 #[.pointer (some ⟨p, 0, none⟩), .int .i64 n] w (Took 84 w p A [] bs 0) := by
  have hc0 : w.cell? ⟨p, 0, none⟩ = some (.slice A bs.length c) := h.blk.cell 0
  have hc1 : w.cell? ⟨p, 1, none⟩ = some (.int .i64 0) := h.blk.cell 1
  have hf0 := h.blk.free 0
  have hmx : max 0 n = 0 := by omega
  have hcap : bs.length ≤ c ∧ c ≤ maxLen := by
    obtain ⟨A', n', c', e', hl, hc, hm, hat⟩ := h.rd
    injection e' with e1 e2 e3
    subst e1 e2 e3
    exact ⟨hc, hm⟩
  obtain ⟨hcap, hcm⟩ := hcap
  unfold maxLen at hcm
  have fin : Took 84 w p A [] bs 0 (.returned (.slice none 0 0)) (w.setCell ⟨p, 0, none⟩ (.slice A bs.length c)) := by
    have hoff : Off (fun i => i = p) w (w.setCell ⟨p, 0, none⟩ (.slice A bs.length c)) := (Off.refl (fun i => i = p) w).setCell (p := ⟨p, 0, none⟩) (.inl rfl) _
    refine ⟨none, 0, A, c, rfl, World.ownsRow_nil _ _ _ _, ⟨h.blk.put 0 _, ?_, h.ne⟩, fun a ha => ⟨a, ha, rfl⟩, hoff⟩
    obtain ⟨A', n', c', e', hl, hc, hm, hat⟩ := h.rd
    injection e' with e1 e2 e3
    subst e1 e2 e3
    refine ⟨_, _, _, rfl, hl, hc, hm, fun hn => ?_⟩
    obtain ⟨g, o, rfl, hg, hx⟩ := hat.out hn
    exact ⟨g, o, rfl, by have := hoff.size; omega, fun j u hu => (hoff.cell (p := ⟨g, o + j, none⟩) hg (h.ne.out hn ⟨g, o, none⟩ rfl)).trans (hx j u hu)⟩
  have FIN := Lib.hid fin
  have HH := Lib.hid h
  clear h fin
  have t1 : decide (bs.length < 0) = false := by simp
  have t2 : decide ((bs.length : Int) < 0) = false := by simp
  cases A with
  | none =>
    obtain hz : bs.length = 0 := by
      obtain ⟨A', n', c', e', hl, hc, hm, hat⟩ := HH.out.rd
      injection e' with e1 e2 e3
      rcases Nat.eq_zero_or_pos bs.length with h0 | h0
      · exact h0
      · subst e1 e2
        obtain ⟨g, o, e, _⟩ := hat.out h0
        cases e
    have hbs : bs = [] := List.eq_nil_of_length_eq_zero hz
    subst hbs
    have hcc : (0 : Int) ≤ (c : Int) := by omega
    go_enter Try.func41, Try.ntmps41
    go_wp2_with (at_builtin; refine wpList_nothing elem_byte _ rfl (.const (.slice none 0 0)) (.tmp 33) rfl w.heap.size 0 (.slice none 0 0) [] rfl (World.ownsRow_nil _ _ _ _) _ _ rfl ?_)
    all_goals
      go_ret
      exact FIN.out
  | some a =>
    have hcc : (0 : Int) ≤ (c : Int) := by omega
    have hll : (0 : Int) ≤ (bs.length : Int) := by omega
    go_enter Try.func41, Try.ntmps41
    go_wp2_with (at_builtin; refine wpList_nothing elem_byte _ rfl (.const (.slice none 0 0)) (.tmp 33) rfl w.heap.size 0 (.slice none 0 0) [] rfl (World.ownsRow_nil _ _ _ _) _ _ rfl ?_)
    all_goals
      go_ret
      exact FIN.out

set_option maxRecDepth 100000 in
theorem rtake_some (w : World) (p : Nat) (A : Option Addr) (c : Nat) (bs : List UInt8) (n : Nat) (h : Rd 84 w p A c bs 0) (h0 : 0 < n) (hx : n ≤ bs.length) (hl : bs.length ≤ 140737488355328) :
    Calls Try.prog 41 #[.pointer (some ⟨p, 0, none⟩), .int .i64 n] w (Took 84 w p A (bs.take n) (bs.drop n) 0) := by
  have hc0 : w.cell? ⟨p, 0, none⟩ = some (.slice A bs.length c) := h.blk.cell 0
  have hc1 : w.cell? ⟨p, 1, none⟩ = some (.int .i64 0) := h.blk.cell 1
  have hps := h.blk.lt
  obtain ⟨g, o, rfl⟩ : ∃ g o, A = some ⟨g, o, none⟩ := by
    obtain ⟨A', n', c', e', hl, hc, hm, hat⟩ := h.rd
    injection e' with e1 e2 e3
    subst e1 e2 e3
    obtain ⟨g, o, rfl, _⟩ := hat.out (by omega)
    exact ⟨g, o, rfl⟩
  have hcap : bs.length ≤ c ∧ c ≤ maxLen := by
    obtain ⟨A', n', c', e', hl, hc, hm, hat⟩ := h.rd
    injection e' with e1 e2 e3
    subst e1 e2 e3
    exact ⟨hc, hm⟩
  obtain ⟨hcap, hcm⟩ := hcap
  unfold maxLen at hcm
  have hr1 := h.rd.firsts (k := n) hx
  rw [bytesV_take] at hr1
  have hmx : max 0 (n : Int) = n := by omega
  have t0 : (0 : Int) < n := by omega
  have t2 : decide (bs.length < n) = false := by simp; omega
  have t3 : decide ((bs.length : Int) < (n : Int)) = false := by simp; omega
  have hlt : (bs.take n).length = n := by rw [List.length_take]; omega
  have HLT := Lib.hid hlt
  clear hlt
  have fin := fun w1 A1 c1 o' ho' hown hb1 => took_fin 84 w p g o c bs n h h0 hx w1 A1 c1 o' ho' hown hb1
  have FIN := Lib.hid fin
  have HH := Lib.hid h
  have HR := Lib.hid hr1
  clear fin h hr1
  have hsz : (bytesV (bs.take n)).length = n := by rw [length_bytesV]; exact HLT.out
  have HSZ := Lib.hid hsz
  clear hsz
  by_cases hcn : c = n
  all_goals
    have hcn2 : c = n ∨ decide (c = n) = false := by
      rcases Classical.em (c = n) with hh | hh
      · exact .inl hh
      · exact .inr (by simpa using hh)
    have HC := Lib.hid hcn2
    clear hcn2
  · subst hcn
    go_enter Try.func41, Try.ntmps41
    go_wp2_with (at_builtin; refine wpList_extend elem_byte _ rfl (.const (.slice none 0 0)) (.tmp 33) rfl w.heap.size 0 (.slice none 0 0) [] rfl (World.ownsRow_nil _ _ _ _) w.heap.size _ (bytesV (bs.take c)) rfl HR.out (bytesV_one _) (by rw [HSZ.out]; unfold maxLen; omega) (by rw [HSZ.out]; omega) (Nat.le_refl _) ?_; intro A' c' w1 hown hgrow hfr; have hbw := (Below.refl w.heap.size w).grown hgrow (Nat.le_refl _) (fun k hk => by cases hk); have hbk := HH.out.blk.below hbw hps; have hc2 : w1.cell? ⟨p, 0, none⟩ = some (.slice (some ⟨g, o, none⟩) bs.length c) := hbk.cell 0; have hf2 := hbk.free 0)
    go_ret
    rw [Nat.zero_add, List.nil_append, length_bytesV] at hown
    have h2 := FIN.out w1 A' c' o (by omega) hown hbw
    rw [Nat.sub_self, show bs.length - c = 0 from by omega] at h2
    show Took 84 w p (some ⟨g, o, none⟩) (bs.take c) (bs.drop c) 0 (.returned (.slice A' (bytesV (bs.take c)).length c')) (w1.setCell ⟨p, 0, none⟩ (.slice (some ⟨g, o, none⟩) 0 0))
    rw [length_bytesV]
    exact h2
  · have hcn3 : decide (c = n) = false := by simpa using hcn
    go_enter Try.func41, Try.ntmps41
    go_wp2_with (at_builtin; refine wpList_extend elem_byte _ rfl (.const (.slice none 0 0)) (.tmp 33) rfl w.heap.size 0 (.slice none 0 0) [] rfl (World.ownsRow_nil _ _ _ _) w.heap.size _ (bytesV (bs.take n)) rfl HR.out (bytesV_one _) (by rw [HSZ.out]; unfold maxLen; omega) (by rw [HSZ.out]; omega) (Nat.le_refl _) ?_; intro A' c' w1 hown hgrow hfr; have hbw := (Below.refl w.heap.size w).grown hgrow (Nat.le_refl _) (fun k hk => by cases hk); have hbk := HH.out.blk.below hbw hps; have hc2 : w1.cell? ⟨p, 0, none⟩ = some (.slice (some ⟨g, o, none⟩) bs.length c) := hbk.cell 0; have hf2 := hbk.free 0)
    go_ret
    rw [Nat.zero_add, List.nil_append, length_bytesV] at hown
    have h2 := FIN.out w1 A' c' (o + n) (fun _ => rfl) hown hbw
    show Took 84 w p (some ⟨g, o, none⟩) (bs.take n) (bs.drop n) 0 (.returned (.slice A' (bytesV (bs.take n)).length c')) (w1.setCell ⟨p, 0, none⟩ (.slice (some ⟨g, o + n, none⟩) (bs.length - n) (c - n)))
    rw [length_bytesV]
    exact h2

theorem rtake_any (w : World) (p : Nat) (A : Option Addr) (c : Nat) (bs : List UInt8) (e n : Int) (hi : RdInv bs e) (h : Rd 84 w p A c bs e) (hl : bs.length ≤ 140737488355328) :
    Calls Try.prog 41 #[.pointer (some ⟨p, 0, none⟩), .int .i64 n] w (Took 84 w p A (takeOut bs e n) (takeLeft bs e n) (takeErr bs e n)) := by
  unfold takeOut takeLeft takeErr
  rcases hi with rfl | ⟨rfl, rfl⟩
  · by_cases h1 : n ≤ 0
    · rw [if_pos (.inr h1), if_pos (.inr h1), if_pos (.inr h1)]
      exact rtake_zero w p A c bs n h h1
    · have hno : ¬ ((0 : Int) ≠ 0 ∨ n ≤ 0) := by omega
      rw [if_neg hno, if_neg hno, if_neg hno]
      by_cases h2 : (bs.length : Int) < n
      · rw [if_pos h2, if_pos h2, if_pos h2]
        exact rtake_short w p A c bs 0 n h (.inr (by omega))
      · rw [if_neg h2, if_neg h2, if_neg h2]
        obtain ⟨m, rfl⟩ := Int.eq_ofNat_of_zero_le (a := n) (by omega)
        exact rtake_some w p A c bs m h (by omega) (by omega) hl
  · rw [if_pos (.inl (by decide)), if_pos (.inl (by decide)), if_pos (.inl (by decide))]
    exact rtake_short w p A c [] 4 n h (.inl (by decide))
end Go.Proofs.Ytjddplddpdcmdaa
