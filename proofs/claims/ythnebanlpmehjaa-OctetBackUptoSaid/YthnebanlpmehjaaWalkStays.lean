/- The walk of OctetStays. -/
import Derived.Test.YthnebanlpmehjaaReader3
import Derived.Test.YthnebanlpmehjaaOpen3
import Derived.Test.YthnebanlpmehjaaAwake3
namespace Go.Proofs.Ythnebanlpmehjaa
open Go.RowKit
set_option linter.unusedVariables false

theorem CallsOf.at_ {w wr : World} {v : Value} {l : List CallV} (h : CallsOf w v l) (hb : Below w.heap.size w wr) {k : Nat} (hk : k < l.length) :
    ∃ g o c x, v = .slice (some ⟨g, o, none⟩) l.length c ∧ l[k]? = some x ∧ x.ok w ∧ wr.cell? ⟨g, o + k * 3, none⟩ = some (.int .i64 x.dd) ∧ wr.cell? ⟨g, o + k * 3 + 1, none⟩ = some (.int .u64 x.n) ∧ wr.cell? ⟨g, o + k * 3 + 2, none⟩ = some x.rv ∧ g < w.heap.size := by
  obtain ⟨A, n, c, e, hl, hc, hm, ha⟩ := h.rd
  obtain ⟨A', c', e'⟩ := h.form
  rw [e] at e'
  injection e' with e1 e2 e3
  subst e1 e2 e3
  obtain ⟨g, o, rfl, hg, hx⟩ := ha.out (by omega)
  have hlk : l[k]? = some l[k] := List.getElem?_eq_getElem hk
  have hfl : ∀ j, j < 3 → (l.flatMap CallV.cells)[k * 3 + j]? = (CallV.cells l[k])[j]? := fun j hj => flat_at CallV.cells 3 l (fun p _ => rfl) k j _ hlk hj
  have h0 := hx (k * 3 + 0) _ (hfl 0 (by omega))
  have h1 := hx (k * 3 + 1) _ (hfl 1 (by omega))
  have h2 := hx (k * 3 + 2) _ (hfl 2 (by omega))
  refine ⟨g, o, c, l[k], e, hlk, h.ok.out _ (List.getElem_mem hk), ?_, ?_, ?_, hg⟩
  · exact (hb.cell (p := ⟨g, o + k * 3, none⟩) hg).trans h0
  · exact (hb.cell (p := ⟨g, o + k * 3 + 1, none⟩) hg).trans h1
  · exact (hb.cell (p := ⟨g, o + k * 3 + 2, none⟩) hg).trans h2

theorem stay_out (n : Int) : takeOut [] 4 n = [] := by unfold takeOut; rw [if_pos (.inl (by decide))]
theorem stay_left (n : Int) : takeLeft [] 4 n = [] := by unfold takeLeft; rw [if_pos (.inl (by decide))]
theorem stay_err (n : Int) : takeErr [] 4 n = 4 := by unfold takeErr; rw [if_pos (.inl (by decide))]
/-- a reader that stays at its error -/
def Stays (w : World) (p : Nat) (v : Value) (en : Ending) (w' : World) : Prop :=
  en = .returned v ∧ ∃ B c, Rd 60 w' p B c [] 4 ∧ Off (fun i => i = p) w w'
theorem stay_u8 (w : World) (p : Nat) (A : Option Addr) (c : Nat) (h : Rd 60 w p A c [] 4) :
    Calls Try.prog 17 #[.pointer (some ⟨p, 0, none⟩)] w (Stays w p (.int .i64 0)) := by
  refine (ru8_any w p A c [] 4 h (by simp)).mono ?_
  rintro en w' ⟨rfl, B, c', hrd, _, hoff⟩
  rw [stay_left, stay_err] at hrd
  exact ⟨by rw [stay_out]; rfl, B, c', hrd, hoff⟩
theorem stay_u16 (w : World) (p : Nat) (A : Option Addr) (c : Nat) (h : Rd 60 w p A c [] 4) :
    Calls Try.prog 19 #[.pointer (some ⟨p, 0, none⟩)] w (Stays w p (.int .i64 0)) := by
  refine (ru16_any w p A c [] 4 h (by simp)).mono ?_
  rintro en w' ⟨rfl, B, c', hrd, _, hoff⟩
  rw [stay_left, stay_err] at hrd
  exact ⟨by rw [stay_out]; rfl, B, c', hrd, hoff⟩
theorem stay_u32 (w : World) (p : Nat) (A : Option Addr) (c : Nat) (h : Rd 60 w p A c [] 4) :
    Calls Try.prog 21 #[.pointer (some ⟨p, 0, none⟩)] w (Stays w p (.int .u32 0)) := by
  refine (ru32_any w p A c [] 4 h (by simp)).mono ?_
  rintro en w' ⟨rfl, B, c', hrd, _, hoff⟩
  rw [stay_left, stay_err] at hrd
  exact ⟨by rw [stay_out]; rfl, B, c', hrd, hoff⟩
theorem stay_u64 (w : World) (p : Nat) (A : Option Addr) (c : Nat) (h : Rd 60 w p A c [] 4) :
    Calls Try.prog 23 #[.pointer (some ⟨p, 0, none⟩)] w (Stays w p (.int .u64 0)) := by
  refine (ru64_any w p A c [] 4 h (by simp)).mono ?_
  rintro en w' ⟨rfl, B, c', hrd, _, hoff⟩
  rw [stay_left, stay_err] at hrd
  exact ⟨by rw [stay_out]; rfl, B, c', hrd, hoff⟩
theorem stay_raw (w : World) (p : Nat) (A : Option Addr) (c : Nat) (n : Int) (h : Rd 60 w p A c [] 4) :
    Calls Try.prog 25 #[.pointer (some ⟨p, 0, none⟩), .int .i64 n] w fun en w' => ∃ A' c', Stays w p (.slice A' 0 c') en w' := by
  refine (rraw_any w p A c [] 4 n h (by simp)).mono ?_
  rintro en w' ⟨A', c', B, c2, rfl, _, hrd, _, hoff⟩
  rw [stay_left, stay_err] at hrd
  exact ⟨A', c', by rw [stay_out]; rfl, B, c2, hrd, hoff⟩

theorem octetStays_long (v0 : Value) (a0 : List UInt8) (v1 : Value) (w : World) (hr : Reads w w.heap.size v0 (bytesV a0)) (hbig : 200 < a0.length) :
    Calls Try.prog 6 #[v0, v1] w fun e w' => e = .returned (.bool true) ∧ Below w.heap.size w w' := by
  obtain ⟨A, n, c, rfl, hl, hc, hm, ha⟩ := hr
  rw [length_bytesV] at hl
  subst hl
  have t1 : decide (200 < (a0.length : Int)) = true := by simp; omega
  go_enter Try.func6, Try.ntmps6
  go_wp2_with fail
  refine (awake3_any _).mono ?_; rintro e w' ⟨rfl, hb⟩
  go_wp2_with fail
  go_ret
  exact ⟨rfl, hb⟩

set_option maxRecDepth 100000 in
theorem octetStays_short (v0 : Value) (a0 : List UInt8) (v1 : Value) (a1 : List CallV) (w : World) (hr : Reads w w.heap.size v0 (bytesV a0)) (hbig : a0.length ≤ 200) (o1 : CallsOf w v1 a1) :
    Calls Try.prog 6 #[v0, v1] w fun e w' => e = .returned (.bool true) ∧ Below w.heap.size w w' := by
  have hr2 := hr
  obtain ⟨A, n, c, rfl, hl, hc, hm, ha⟩ := hr
  rw [length_bytesV] at hl
  subst hl
  have t1 : decide (200 < (a0.length : Int)) = false := by simp; omega
  obtain ⟨A1, c1, rfl⟩ := o1.form
  have HR := Lib.hid hr2
  have H1 := Lib.hid o1
  have hlen1 := o1.len
  clear hr2 o1 ha
  go_enter Try.func6, Try.ntmps6
  go_wp2_with fail
  refine (newreader_any w w.heap.size _ a0 HR.out (Nat.le_refl _) (by omega)).mono ?_
  rintro e w1 ⟨p, B, c2, rfl, hrd, hp, hB, hb1⟩
  have HRD := Lib.hid hrd
  have HB1 := Lib.hid hb1
  clear hrd hb1
  go_wp2_with fail
  have e1 : takeOut a0 0 ((a0.length : Int) + 1) = [] := by unfold takeOut; rw [if_neg (by omega), if_pos (by omega)]
  have e2 : takeLeft a0 0 ((a0.length : Int) + 1) = [] := by unfold takeLeft; rw [if_neg (by omega), if_pos (by omega)]
  have e3 : takeErr a0 0 ((a0.length : Int) + 1) = 4 := by unfold takeErr; rw [if_neg (by omega), if_pos (by omega)]
  have HT := rraw_any w1 p B c2 a0 0 ((a0.length : Int) + 1) HRD.out (by omega)
  rw [e1, e2, e3] at HT
  clear e1 e2 e3
  refine HT.mono ?_
  clear HT
  rintro e w2 ⟨A3, c3, B3, c4, rfl, hown, hrd2, hbl, hoff⟩
  have hb2 : Below w.heap.size w w2 := HB1.out.trans (hoff.below HB1.out.size (fun i hi => by omega))
  have HRD2 := Lib.hid hrd2
  have HB2 := Lib.hid hb2
  clear hown hbl hoff hrd2 hb2 HRD HB1 hB HR hm hc
  go_wp2_with (first
    | (go_at_call 27; refine (left_any _ p _ _ _ _ HRD2.out).mono ?_; rintro e w' ⟨rfl, rfl⟩)
    | (go_at_call 28; refine (end_any _ p _ _ _ _ HRD2.out).mono ?_; rintro e w' ⟨rfl, rfl⟩; rw [show endErr [] 4 = 4 from rfl]))
  go_loopw [34] (fun i wr => ∃ k : Nat, k ≤ a1.length ∧ i = .int .i64 k ∧ ∃ B c, Rd 60 wr p B c [] 4 ∧ Below w.heap.size w wr) (fun i _ => a1.length - (intOf i).toNat)
  case atStart => exact ⟨0, by omega, rfl, _, _, HRD2.out, HB2.out⟩
  case round =>
    clear HRD2 HB2
    obtain ⟨k, hk, rfl, B5, c5, hrd, hbel⟩ := hrel
    by_cases hlt : k < a1.length
    · obtain ⟨g, o, c6, x, e1, hxk, hok, hc0, hc1, hc2, hg⟩ := H1.out.at_ hbel hlt
      injection e1 with e1 _ e3
      subst e1 e3
      obtain ⟨dd, n, rv, raw⟩ := x
      obtain ⟨hd0, hd1, hn, hraw, hrl⟩ := hok
      dsimp only at hc0 hc1 hc2 hd0 hd1 hn hraw
      have hrd4 := Lib.hid (hrd.below ((Below.refl _ wr).alloc (Nat.le_refl _) (.cells #[.int .i64 dd, .int .u64 n, rv] 46)))
      have HB4 := Lib.hid (hbel.alloc hbel.size (.cells #[.int .i64 dd, .int .u64 n, rv] 46))
      obtain ⟨A7, c7, rfl, _, _⟩ := hraw.form
      clear hrd hbel hraw hxk
      by_cases h30 : 30 ≤ k
      · go_wp2_with (go_at_call 14; refine (awake3_any _).mono ?_; rintro e w' ⟨rfl, hb9⟩)
        go_ret
        exact ⟨rfl, HB4.out.trans (hb9.mono HB4.out.size)⟩
      · by_cases hd : dd = 0
        · subst hd
          go_wp2_with fail
          refine (stay_u8 _ p _ _ hrd4.out).mono ?_
          rintro e w5 ⟨rfl, B6, c6, hrd5, hoff5⟩
          have hb5 : Below w.heap.size w w5 := HB4.out.trans (hoff5.below HB4.out.size (fun i hi => by omega))
          have HRD5 := Lib.hid hrd5
          have HB5 := Lib.hid hb5
          clear hoff5 hrd5 hb5
          go_wp2_with (first
          | (go_at_call 27; refine (left_any _ p _ _ _ _ HRD5.out).mono ?_; rintro e w' ⟨rfl, rfl⟩)
          | (go_at_call 28; refine (end_any _ p _ _ _ _ HRD5.out).mono ?_; rintro e w' ⟨rfl, rfl⟩; rw [show endErr [] 4 = 4 from rfl]))
          go_roundw
          case rel => exact ⟨k + 1, by omega, by go_num, _, _, HRD5.out, HB5.out⟩
          case measure => simp [intOf]; omega
        · have t2 : (dd == 0) = false := by simpa using hd
          clear hd
          by_cases hd : dd = 1
          · subst hd
            go_wp2_with fail
            refine (stay_u16 _ p _ _ hrd4.out).mono ?_
            rintro e w5 ⟨rfl, B6, c6, hrd5, hoff5⟩
            have hb5 : Below w.heap.size w w5 := HB4.out.trans (hoff5.below HB4.out.size (fun i hi => by omega))
            have HRD5 := Lib.hid hrd5
            have HB5 := Lib.hid hb5
            clear hoff5 hrd5 hb5
            go_wp2_with (first
          | (go_at_call 27; refine (left_any _ p _ _ _ _ HRD5.out).mono ?_; rintro e w' ⟨rfl, rfl⟩)
          | (go_at_call 28; refine (end_any _ p _ _ _ _ HRD5.out).mono ?_; rintro e w' ⟨rfl, rfl⟩; rw [show endErr [] 4 = 4 from rfl]))
            go_roundw
            case rel => exact ⟨k + 1, by omega, by go_num, _, _, HRD5.out, HB5.out⟩
            case measure => simp [intOf]; omega
          · have t3 : (dd == 1) = false := by simpa using hd
            clear hd
            by_cases hd : dd = 2
            · subst hd
              go_wp2_with fail
              refine (stay_u32 _ p _ _ hrd4.out).mono ?_
              rintro e w5 ⟨rfl, B6, c6, hrd5, hoff5⟩
              have hb5 : Below w.heap.size w w5 := HB4.out.trans (hoff5.below HB4.out.size (fun i hi => by omega))
              have HRD5 := Lib.hid hrd5
              have HB5 := Lib.hid hb5
              clear hoff5 hrd5 hb5
              go_wp2_with (first
          | (go_at_call 27; refine (left_any _ p _ _ _ _ HRD5.out).mono ?_; rintro e w' ⟨rfl, rfl⟩)
          | (go_at_call 28; refine (end_any _ p _ _ _ _ HRD5.out).mono ?_; rintro e w' ⟨rfl, rfl⟩; rw [show endErr [] 4 = 4 from rfl]))
              go_roundw
              case rel => exact ⟨k + 1, by omega, by go_num, _, _, HRD5.out, HB5.out⟩
              case measure => simp [intOf]; omega
            · have t4 : (dd == 2) = false := by simpa using hd
              clear hd
              by_cases hd : dd = 3
              · subst hd
                go_wp2_with fail
                refine (stay_u64 _ p _ _ hrd4.out).mono ?_
                rintro e w5 ⟨rfl, B6, c6, hrd5, hoff5⟩
                have hb5 : Below w.heap.size w w5 := HB4.out.trans (hoff5.below HB4.out.size (fun i hi => by omega))
                have HRD5 := Lib.hid hrd5
                have HB5 := Lib.hid hb5
                clear hoff5 hrd5 hb5
                go_wp2_with (first
          | (go_at_call 27; refine (left_any _ p _ _ _ _ HRD5.out).mono ?_; rintro e w' ⟨rfl, rfl⟩)
          | (go_at_call 28; refine (end_any _ p _ _ _ _ HRD5.out).mono ?_; rintro e w' ⟨rfl, rfl⟩; rw [show endErr [] 4 = 4 from rfl]))
                go_roundw
                case rel => exact ⟨k + 1, by omega, by go_num, _, _, HRD5.out, HB5.out⟩
                case measure => simp [intOf]; omega
              · have t5 : (dd == 3) = false := by simpa using hd
                clear hd
                go_wp2_with fail
                refine (stay_raw _ p _ _ _ hrd4.out).mono ?_
                rintro e w5 ⟨A9, c9, rfl, B6, c6, hrd5, hoff5⟩
                have hb5 : Below w.heap.size w w5 := HB4.out.trans (hoff5.below HB4.out.size (fun i hi => by omega))
                have HRD5 := Lib.hid hrd5
                have HB5 := Lib.hid hb5
                clear hoff5 hrd5 hb5
                go_wp2_with (first
          | (go_at_call 27; refine (left_any _ p _ _ _ _ HRD5.out).mono ?_; rintro e w' ⟨rfl, rfl⟩)
          | (go_at_call 28; refine (end_any _ p _ _ _ _ HRD5.out).mono ?_; rintro e w' ⟨rfl, rfl⟩; rw [show endErr [] 4 = 4 from rfl]))
                go_roundw
                case rel => exact ⟨k + 1, by omega, by go_num, _, _, HRD5.out, HB5.out⟩
                case measure => simp [intOf]; omega
    · go_wp2_with (go_at_call 14; refine (awake3_any _).mono ?_; rintro e w' ⟨rfl, hb9⟩)
      go_ret
      exact ⟨rfl, hbel.trans (hb9.mono hbel.size)⟩

theorem octetStays_walk (v0 : Value) (a0 : List UInt8) (v1 : Value) (a1 : List CallV) (w : World) (o0 : Reads w w.heap.size v0 (bytesV a0) ∧ a0.length ≤ 140737488351232) (o1 : CallsOf w v1 a1) :
    Calls Try.prog 6 #[v0, v1] w fun e w' => e = .returned (.bool true) ∧ Below w.heap.size w w' := by
  by_cases h : 200 < a0.length
  · exact octetStays_long v0 a0 v1 w o0.1 h
  · exact octetStays_short v0 a0 v1 a1 w o0.1 (by omega) o1
end Go.Proofs.Ythnebanlpmehjaa
