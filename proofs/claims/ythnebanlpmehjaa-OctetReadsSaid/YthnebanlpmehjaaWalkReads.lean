/- The walk of OctetReads. -/
import Derived.Test.YthnebanlpmehjaaReader4
import Derived.Test.YthnebanlpmehjaaWalkStays
import Derived.Deep.RegionWith
import Derived.Deep.DrawnRows
import Derived.BigQuiet
import Derived.Deep.QuietTactic
namespace Go.Proofs.Ythnebanlpmehjaa
open Go.RowKit
set_option linter.unusedVariables false

theorem q_left {P : Program} {f : FuncId} {args : Array Value} {w : World} {n : Nat} {v : Value} (h : Calls P f args (w.drewN n) fun e w' => e = .returned v ∧ w.drewN n = w') :
    Calls P f args (w.drewN n) fun e w'' => e = .returned v ∧ ∃ m, w'' = w.drewN m := h.mono fun _ _ ⟨he, hm⟩ => ⟨he, n, hm.symm⟩

/-- two readers at the same place -/
structure Pair (w : World) (p q : Nat) (A : Option Addr) (c : Nat) (A' : Option Addr) (c' : Nat) (bs : List UInt8) (e : Int) : Prop where
  inv : RdInv bs e
  len : bs.length ≤ 140737488355328
  r : Rd 60 w p A c bs e
  m : Rd 44 w q A' c' bs e
  pq : p ≠ q
  s1 : Hid (0 < bs.length → ∀ a, A = some a → a.block ≠ q)
  s2 : Hid (0 < bs.length → ∀ a, A' = some a → a.block ≠ p)
theorem Pair.below {w w' : World} {p q : Nat} {A : Option Addr} {c : Nat} {A' : Option Addr} {c' : Nat} {bs : List UInt8} {e : Int} (h : Pair w p q A c A' c' bs e) (hb : Below w.heap.size w w') : Pair w' p q A c A' c' bs e :=
  ⟨h.inv, h.len, h.r.below hb, h.m.below hb, h.pq, h.s1, h.s2⟩
theorem Pair.drewN {w : World} {p q : Nat} {A : Option Addr} {c : Nat} {A' : Option Addr} {c' : Nat} {bs : List UInt8} {e : Int} (h : Pair w p q A c A' c' bs e) (n : Nat) : Pair (w.drewN n) p q A c A' c' bs e :=
  h.below (below_drewN (Below.refl _ _) n)
/-- the first of them has moved: the second one's reader -/
theorem Pair.mid {w w5 : World} {p q : Nat} {A : Option Addr} {c : Nat} {A' : Option Addr} {c' : Nat} {bs : List UInt8} {e : Int} (h : Pair w p q A c A' c' bs e) (ho : Off (fun i => i = p) w w5) : Rd 44 w5 q A' c' bs e :=
  h.m.off ho (fun hq => h.pq hq.symm) (fun h0 a ha => h.s2.out h0 a ha)
/-- both have moved -/
theorem Pair.step {w w5 w6 : World} {p q : Nat} {A : Option Addr} {c : Nat} {A' : Option Addr} {c' : Nat} {bs : List UInt8} {e : Int} (h : Pair w p q A c A' c' bs e) (n : Int) {B5 : Option Addr} {c5 : Nat} {B6 : Option Addr} {c6 : Nat}
    (h5 : Rd 60 w5 p B5 c5 (takeLeft bs e n) (takeErr bs e n)) (b5 : ∀ a, B5 = some a → ∃ b, A = some b ∧ b.block = a.block) (o5 : Off (fun i => i = p) w w5)
    (h6 : Rd 44 w6 q B6 c6 (takeLeft bs e n) (takeErr bs e n)) (b6 : ∀ a, B6 = some a → ∃ b, A' = some b ∧ b.block = a.block) (o6 : Off (fun i => i = q) w5 w6) :
    Pair w6 p q B5 c5 B6 c6 (takeLeft bs e n) (takeErr bs e n) := by
  refine ⟨takeInv h.inv, Nat.le_trans (takeLeft_le bs e n) h.len, h5.off o6 (fun hp => h.pq hp) (fun h0 a ha hS => ?_), h6, h.pq, Lib.hid (fun h0 a ha => ?_), Lib.hid (fun h0 a ha => ?_)⟩
  · obtain ⟨b, hb, hbb⟩ := b5 a ha
    have := h.s1.out (by have := takeLeft_le bs e n; omega) b hb
    omega
  · obtain ⟨b, hb, hbb⟩ := b5 a ha
    have := h.s1.out (by have := takeLeft_le bs e n; omega) b hb
    omega
  · obtain ⟨b, hb, hbb⟩ := b6 a ha
    have := h.s2.out (by have := takeLeft_le bs e n; omega) b hb
    omega

set_option maxHeartbeats 3200000 in
set_option maxRecDepth 100000 in
attribute [local go_sem ↓] Go.wp_at_zero Go.wp_at_succ in
theorem octetReads_walk (v0 : Value) (a0 : List UInt8) (v1 : Value) (a1 : List CallV) (w : World) (o0 : Reads w w.heap.size v0 (bytesV a0) ∧ a0.length ≤ 140737488351232) (o1 : CallsOf w v1 a1) :
    Calls Try.prog 5 #[v0, v1] w fun e w' => e = .returned (.bool true) ∧ Below w.heap.size w w' := by
  obtain ⟨hr, hl0⟩ := o0
  have hr2 := hr
  obtain ⟨A, n, c, rfl, hl, hc, hm, ha⟩ := hr
  rw [length_bytesV] at hl
  subst hl
  obtain ⟨A1, c1, rfl⟩ := o1.form
  have hne : Hid (∀ a, A = some a → 0 < a0.length → a.block < w.heap.size) := Lib.hid (by
    intro a hA hpos
    obtain ⟨g, o, e, hg, _⟩ := ha.out hpos
    rw [hA] at e
    injection e with e
    subst e
    exact hg)
  have HR := Lib.hid hr2
  have H1 := Lib.hid o1
  have hlen1 := o1.len
  clear hr2 o1 ha
  go_enter Try.func5, Try.ntmps5
  go_wp2_with fail
  refine (newreader_any w w.heap.size _ a0 HR.out (Nat.le_refl _) (by omega)).mono ?_
  rintro e w1 ⟨p, B, c2, rfl, hrd, hp, hB, hb1⟩
  have HRD := Lib.hid hrd
  have HB1 := Lib.hid hb1
  have hps := hrd.blk.lt
  clear hrd hb1
  go_wp2_with fail
  obtain ⟨q, hq⟩ : ∃ q, w1.heap.size = q := ⟨_, rfl⟩
  have hpair : Pair (w1.alloc (.cells #[.slice A a0.length c, .int .i64 0] 44)) p q B c2 A c a0 0 := by
    have hb1 := (Below.refl _ w1).alloc (Nat.le_refl _) (.cells #[.slice A a0.length c, .int .i64 0] 44)
    refine ⟨.inl rfl, by omega, HRD.out.below hb1, ⟨?_, ?_, Lib.hid (fun h0 a ha => ?_)⟩, by omega, Lib.hid (fun h0 a ha => ?_), Lib.hid (fun h0 a ha => ?_)⟩
    · rw [← hq]; exact Blk.fresh w1 44 [.slice A a0.length c, .int .i64 0]
    · exact ((HR.out.below HB1.out).below (hb1.mono HB1.out.size)).more (by simp; have := HB1.out.size; omega)
    · have := hne.out a ha h0; have := HB1.out.size; omega
    · obtain ⟨A', n', c', e', hl, hc, hm, hat⟩ := HRD.out.rd
      injection e' with e1 e2 e3
      subst e1 e2
      obtain ⟨g, o, e4, hg, _⟩ := hat.out h0
      rw [ha] at e4
      injection e4 with e4
      subst e4
      show g ≠ q
      omega
    · have := hne.out a ha h0; omega
  have HP0 := Lib.hid hpair
  have HB0 := Lib.hid (HB1.out.alloc HB1.out.size (.cells #[.slice A a0.length c, .int .i64 0] 44))
  have hqs : w.heap.size ≤ q := by have := HB1.out.size; omega
  clear hpair HRD HB1 HR hne hB
  rw [hq]
  clear hq hps
  go_loopw [18] (fun i wr => ∃ k : Nat, k ≤ a1.length ∧ i = .int .i64 k ∧ ∃ A c A' c' bs e, Pair wr p q A c A' c' bs e ∧ Below w.heap.size w wr) (fun i _ => a1.length - (intOf i).toNat)
  case atStart => exact ⟨0, by omega, rfl, _, _, _, _, _, _, HP0.out, HB0.out⟩
  case round =>
    clear HP0 HB0
    obtain ⟨k, hk, rfl, B3, c3, B4, c4, bs, e, hpair, hbel⟩ := hrel
    by_cases hlt : k < a1.length
    · obtain ⟨g, o, c9, x, e1, hxk, hok, hc0, hc1, hc2, hg⟩ := H1.out.at_ hbel hlt
      injection e1 with e1 _ e3
      subst e1 e3
      obtain ⟨dd, n, rv, raw⟩ := x
      obtain ⟨hd0, hd1, hn, hraw, hrl⟩ := hok
      dsimp only at hc0 hc1 hc2 hd0 hd1 hn hraw
      have HP := Lib.hid (hpair.below ((Below.refl _ wr).alloc (Nat.le_refl _) (.cells #[.int .i64 dd, .int .u64 n, rv] 46)))
      have HB4 := Lib.hid (hbel.alloc hbel.size (.cells #[.int .i64 dd, .int .u64 n, rv] 46))
      obtain ⟨A7, c7, rfl, _, _⟩ := hraw.form
      clear hpair hbel hraw hxk
      by_cases h60 : 60 ≤ k
      · go_wp2_with (go_at_call 14; refine (awake3_any _).mono ?_; rintro e w' ⟨rfl, hb9⟩)
        go_ret
        exact ⟨rfl, HB4.out.trans (hb9.mono HB4.out.size)⟩
      · by_cases hd : dd = 0
        · subst hd
          go_wp2_with fail
          refine (ru8_any _ p _ _ bs e HP.out.r HP.out.len).mono ?_
          rintro en w5 ⟨rfl, B5, c5, h5, b5, o5⟩
          have M5 := Lib.hid (HP.out.mid o5)
          go_wp2_with fail
          refine (mu8_any _ q _ _ bs e HP.out.inv M5.out HP.out.len).mono ?_
          rintro en w6 ⟨rfl, B6, c6, h6, b6, o6⟩
          have HP6 := Lib.hid (HP.out.step 1 h5 b5 o5 h6 b6 o6)
          have HB6 := Lib.hid ((HB4.out.trans (o5.below HB4.out.size (fun i hi => by omega))).trans (o6.below (by have := o5.size; have := HB4.out.size; omega) (fun i hi => by omega)))
          clear M5 h5 b5 o5 h6 b6 o6 HP HB4
          generalize takeLeft bs e 1 = bs6 at HP6
          generalize takeErr bs e 1 = e6 at HP6
          have hcq : w6.cell? ⟨q, 0, none⟩ = some (.slice B6 bs6.length c6) := HP6.out.m.blk.cell 0
          go_wp2_with fail
          go_quiet (first
            | ((go_at_call 27; exact q_left (left_any _ p _ _ _ _ (HP6.out.drewN _).r)))
            | ((go_at_call 28; exact q_left (end_any _ p _ _ _ _ (HP6.out.drewN _).r)))
            | ((go_at_call 29; exact q_left (mend_any _ q _ _ _ _ (HP6.out.drewN _).m))))
          go_wp2
          go_roundw
          case rel => exact ⟨k + 1, by omega, by go_num, _, _, _, _, _, _, HP6.out.drewN _, below_drewN HB6.out _⟩
          case measure => simp [intOf]; omega
        · have t2 : (dd == 0) = false := by simpa using hd
          clear hd
          by_cases hd : dd = 1
          · subst hd
            go_wp2_with fail
            refine (ru16_any _ p _ _ bs e HP.out.r HP.out.len).mono ?_
            rintro en w5 ⟨rfl, B5, c5, h5, b5, o5⟩
            have M5 := Lib.hid (HP.out.mid o5)
            go_wp2_with fail
            refine (mu16_any _ q _ _ bs e HP.out.inv M5.out HP.out.len).mono ?_
            rintro en w6 ⟨rfl, B6, c6, h6, b6, o6⟩
            have HP6 := Lib.hid (HP.out.step 2 h5 b5 o5 h6 b6 o6)
            have HB6 := Lib.hid ((HB4.out.trans (o5.below HB4.out.size (fun i hi => by omega))).trans (o6.below (by have := o5.size; have := HB4.out.size; omega) (fun i hi => by omega)))
            clear M5 h5 b5 o5 h6 b6 o6 HP HB4
            generalize takeLeft bs e 2 = bs6 at HP6
            generalize takeErr bs e 2 = e6 at HP6
            have hcq : w6.cell? ⟨q, 0, none⟩ = some (.slice B6 bs6.length c6) := HP6.out.m.blk.cell 0
            go_wp2_with fail
            go_quiet (first
              | ((go_at_call 27; exact q_left (left_any _ p _ _ _ _ (HP6.out.drewN _).r)))
              | ((go_at_call 28; exact q_left (end_any _ p _ _ _ _ (HP6.out.drewN _).r)))
              | ((go_at_call 29; exact q_left (mend_any _ q _ _ _ _ (HP6.out.drewN _).m))))
            go_wp2
            go_roundw
            case rel => exact ⟨k + 1, by omega, by go_num, _, _, _, _, _, _, HP6.out.drewN _, below_drewN HB6.out _⟩
            case measure => simp [intOf]; omega
          · have t3 : (dd == 1) = false := by simpa using hd
            clear hd
            by_cases hd : dd = 2
            · subst hd
              go_wp2_with fail
              refine (ru32_any _ p _ _ bs e HP.out.r HP.out.len).mono ?_
              rintro en w5 ⟨rfl, B5, c5, h5, b5, o5⟩
              have M5 := Lib.hid (HP.out.mid o5)
              go_wp2_with fail
              refine (mu32_any _ q _ _ bs e HP.out.inv M5.out HP.out.len).mono ?_
              rintro en w6 ⟨rfl, B6, c6, h6, b6, o6⟩
              have HP6 := Lib.hid (HP.out.step 4 h5 b5 o5 h6 b6 o6)
              have HB6 := Lib.hid ((HB4.out.trans (o5.below HB4.out.size (fun i hi => by omega))).trans (o6.below (by have := o5.size; have := HB4.out.size; omega) (fun i hi => by omega)))
              clear M5 h5 b5 o5 h6 b6 o6 HP HB4
              generalize takeLeft bs e 4 = bs6 at HP6
              generalize takeErr bs e 4 = e6 at HP6
              have hcq : w6.cell? ⟨q, 0, none⟩ = some (.slice B6 bs6.length c6) := HP6.out.m.blk.cell 0
              go_wp2_with fail
              go_quiet (first
                | ((go_at_call 27; exact q_left (left_any _ p _ _ _ _ (HP6.out.drewN _).r)))
                | ((go_at_call 28; exact q_left (end_any _ p _ _ _ _ (HP6.out.drewN _).r)))
                | ((go_at_call 29; exact q_left (mend_any _ q _ _ _ _ (HP6.out.drewN _).m))))
              go_wp2
              go_roundw
              case rel => exact ⟨k + 1, by omega, by go_num, _, _, _, _, _, _, HP6.out.drewN _, below_drewN HB6.out _⟩
              case measure => simp [intOf]; omega
            · have t4 : (dd == 2) = false := by simpa using hd
              clear hd
              by_cases hd : dd = 3
              · subst hd
                go_wp2_with fail
                refine (ru64_any _ p _ _ bs e HP.out.r HP.out.len).mono ?_
                rintro en w5 ⟨rfl, B5, c5, h5, b5, o5⟩
                have M5 := Lib.hid (HP.out.mid o5)
                go_wp2_with fail
                refine (mu64_any _ q _ _ bs e HP.out.inv M5.out HP.out.len).mono ?_
                rintro en w6 ⟨rfl, B6, c6, h6, b6, o6⟩
                have HP6 := Lib.hid (HP.out.step 8 h5 b5 o5 h6 b6 o6)
                have HB6 := Lib.hid ((HB4.out.trans (o5.below HB4.out.size (fun i hi => by omega))).trans (o6.below (by have := o5.size; have := HB4.out.size; omega) (fun i hi => by omega)))
                clear M5 h5 b5 o5 h6 b6 o6 HP HB4
                generalize takeLeft bs e 8 = bs6 at HP6
                generalize takeErr bs e 8 = e6 at HP6
                have hcq : w6.cell? ⟨q, 0, none⟩ = some (.slice B6 bs6.length c6) := HP6.out.m.blk.cell 0
                go_wp2_with fail
                go_quiet (first
                  | ((go_at_call 27; exact q_left (left_any _ p _ _ _ _ (HP6.out.drewN _).r)))
                  | ((go_at_call 28; exact q_left (end_any _ p _ _ _ _ (HP6.out.drewN _).r)))
                  | ((go_at_call 29; exact q_left (mend_any _ q _ _ _ _ (HP6.out.drewN _).m))))
                go_wp2
                go_roundw
                case rel => exact ⟨k + 1, by omega, by go_num, _, _, _, _, _, _, HP6.out.drewN _, below_drewN HB6.out _⟩
                case measure => simp [intOf]; omega
              · have t5 : (dd == 3) = false := by simpa using hd
                clear hd
                have HPD := Lib.hid (HP.out.below ((Below.refl _ _).drew))
                go_wp2_with fail
                go_region_with (first
                  | (go_at_call 25; (with_reducible refine (rraw_any _ p _ _ bs e _ HPD.out.r HPD.out.len).mono ?_); rintro en w5 ⟨A5, c5, B5, d5, rfl, hown5, h5, b5, o5⟩; have M5 := Lib.hid (HPD.out.mid o5); have q5 := run_str (Reads.of_own hown5))
                  | (go_at_call 26; (with_reducible refine (rtake_any w5 q _ _ bs e _ HPD.out.inv M5.out HPD.out.len).mono ?_); rintro en w6 ⟨A6, c6, B6, d6, rfl, hown6, h6, b6, o6⟩; have q6 := run_str (Reads.of_own hown6); have q56 := run_str (Reads.of_own (own_off hown5 o6 (fun j hj he => by have h1 := (hown5.lt j hj).1; have h2 := HPD.out.m.blk.lt; omega)))))
                all_goals
                  have HP6 := Lib.hid (HPD.out.step _ h5 b5 o5 h6 b6 o6)
                  have HB6 := Lib.hid ((HB4.out.drew.trans (o5.below HB4.out.size (fun i hi => by omega))).trans (o6.below (by have h1 := o5.size; have h2 := HB4.out.size; simp at h1; simp at h2; omega) (fun i hi => by omega)))
                  clear M5 h5 b5 o5 h6 b6 o6 HP HPD HB4 q5 q6 q56 hown5 hown6
                  generalize takeLeft bs e (↑n % 40 - 3) = bs6 at HP6
                  generalize takeErr bs e (↑n % 40 - 3) = e6 at HP6
                  have hcq : w6.cell? ⟨q, 0, none⟩ = some (.slice B6 bs6.length d6) := HP6.out.m.blk.cell 0
                  go_wp2_with fail
                  go_quiet (first
                    | ((go_at_call 27; exact q_left (left_any _ p _ _ _ _ (HP6.out.drewN _).r)))
                    | ((go_at_call 28; exact q_left (end_any _ p _ _ _ _ (HP6.out.drewN _).r)))
                    | ((go_at_call 29; exact q_left (mend_any _ q _ _ _ _ (HP6.out.drewN _).m))))
                  go_wp2
                  go_roundw
                  case rel => exact ⟨k + 1, by omega, by go_num, _, _, _, _, _, _, HP6.out.drewN _, below_drewN HB6.out _⟩
                  case measure => simp [intOf]; omega
    · go_wp2_with (go_at_call 14; refine (awake3_any _).mono ?_; rintro e w' ⟨rfl, hb9⟩)
      go_ret
      exact ⟨rfl, hbel.trans (hb9.mono hbel.size)⟩
end Go.Proofs.Ythnebanlpmehjaa
