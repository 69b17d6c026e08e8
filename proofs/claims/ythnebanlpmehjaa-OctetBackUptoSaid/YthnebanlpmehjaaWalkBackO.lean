/- The walk of OctetBack. -/
import Derived.Test.YthnebanlpmehjaaWritten
import Derived.Deep.RegionHeld3
import Derived.Deep.DeepCutAuto
import Derived.Deep.DrawnRows
namespace Go.Proofs.Ythnebanlpmehjaa
open Go.RowKit
set_option linter.unusedVariables false

theorem takeOut_app (xs rest : List UInt8) : takeOut (xs ++ rest) 0 (xs.length : Int) = xs := by
  unfold takeOut
  by_cases h : xs.length = 0
  · have : xs = [] := List.eq_nil_of_length_eq_zero h
    subst this
    rfl
  · rw [if_neg (by omega), if_neg (by rw [List.length_append]; omega)]
    simp
theorem takeLeft_app (xs rest : List UInt8) : takeLeft (xs ++ rest) 0 (xs.length : Int) = rest := by
  unfold takeLeft
  by_cases h : xs.length = 0
  · have : xs = [] := List.eq_nil_of_length_eq_zero h
    subst this
    rfl
  · rw [if_neg (by omega), if_neg (by rw [List.length_append]; omega)]
    simp
theorem takeErr_app (xs rest : List UInt8) : takeErr (xs ++ rest) 0 (xs.length : Int) = 0 := by
  unfold takeErr
  by_cases h : xs.length = 0
  · rw [if_pos (by omega)]
  · rw [if_neg (by omega), if_neg (by rw [List.length_append]; omega)]
theorem encDrop_next {l : List CallV} {k : Nat} {x : CallV} (h : l[k]? = some x) : encAll (l.drop k) = encC x ++ encAll (l.drop (k + 1)) := by
  have hk := (List.getElem?_eq_some_iff.1 h).1
  rw [List.drop_eq_getElem_cons hk]
  have : l[k] = x := (List.getElem?_eq_some_iff.1 h).2
  rw [this]
  simp [encAll]
theorem sum_drop_le : ∀ (l : List Nat) (k : Nat), (l.drop k).sum ≤ l.sum
  | [], k => by simp
  | x :: l, 0 => by simp
  | x :: l, k + 1 => by
    have := sum_drop_le l k
    simp only [List.drop_succ_cons, List.sum_cons]
    omega
theorem encDrop_len (l : List CallV) (k : Nat) : (encAll (l.drop k)).length ≤ 8 * l.length + (l.map (fun c => c.raw.length)).sum := by
  have h1 := encAll_len (l.drop k)
  have h2 := sum_drop_le (l.map (fun c => c.raw.length)) k
  rw [← List.map_drop] at h2
  have h3 := List.length_drop (i := k) (l := l)
  omega
theorem back_u8 (w : World) (p : Nat) (A : Option Addr) (c : Nat) (n y : Nat) (rest : List UInt8) (hy : n % 256 = y) (h : Rd 60 w p A c (beB n 1 ++ rest) 0) (hl : (beB n 1 ++ rest).length ≤ 140737488355328) :
    Calls Try.prog 17 #[.pointer (some ⟨p, 0, none⟩)] w (Read 60 w p A (.int .i64 (y : Int)) rest 0) := by
  have H := ru8_any w p A c _ 0 h hl
  have e1 := takeOut_app (beB n 1) rest
  have e2 := takeLeft_app (beB n 1) rest
  have e3 := takeErr_app (beB n 1) rest
  rw [length_beB] at e1 e2 e3
  have e4 : deB (beB n 1) = y := by rw [de_be, ← hy]
  rw [show ((1 : Nat) : Int) = 1 from rfl] at e1 e2 e3
  rw [e1, e2, e3, e4] at H
  exact H
theorem back_u16 (w : World) (p : Nat) (A : Option Addr) (c : Nat) (n y : Nat) (rest : List UInt8) (hy : n % 65536 = y) (h : Rd 60 w p A c (beB n 2 ++ rest) 0) (hl : (beB n 2 ++ rest).length ≤ 140737488355328) :
    Calls Try.prog 19 #[.pointer (some ⟨p, 0, none⟩)] w (Read 60 w p A (.int .i64 (y : Int)) rest 0) := by
  have H := ru16_any w p A c _ 0 h hl
  have e1 := takeOut_app (beB n 2) rest
  have e2 := takeLeft_app (beB n 2) rest
  have e3 := takeErr_app (beB n 2) rest
  rw [length_beB] at e1 e2 e3
  have e4 : deB (beB n 2) = y := by rw [de_be, ← hy]
  rw [show ((2 : Nat) : Int) = 2 from rfl] at e1 e2 e3
  rw [e1, e2, e3, e4] at H
  exact H
theorem back_u32 (w : World) (p : Nat) (A : Option Addr) (c : Nat) (n y : Nat) (rest : List UInt8) (hy : n % 4294967296 = y) (h : Rd 60 w p A c (beB n 4 ++ rest) 0) (hl : (beB n 4 ++ rest).length ≤ 140737488355328) :
    Calls Try.prog 21 #[.pointer (some ⟨p, 0, none⟩)] w (Read 60 w p A (.int .u32 (y : Int)) rest 0) := by
  have H := ru32_any w p A c _ 0 h hl
  have e1 := takeOut_app (beB n 4) rest
  have e2 := takeLeft_app (beB n 4) rest
  have e3 := takeErr_app (beB n 4) rest
  rw [length_beB] at e1 e2 e3
  have e4 : deB (beB n 4) = y := by rw [de_be, ← hy]
  rw [show ((4 : Nat) : Int) = 4 from rfl] at e1 e2 e3
  rw [e1, e2, e3, e4] at H
  exact H
theorem back_u64 (w : World) (p : Nat) (A : Option Addr) (c : Nat) (n y : Nat) (rest : List UInt8) (hy : n % 18446744073709551616 = y) (h : Rd 60 w p A c (beB n 8 ++ rest) 0) (hl : (beB n 8 ++ rest).length ≤ 140737488355328) :
    Calls Try.prog 23 #[.pointer (some ⟨p, 0, none⟩)] w (Read 60 w p A (.int .u64 (y : Int)) rest 0) := by
  have H := ru64_any w p A c _ 0 h hl
  have e1 := takeOut_app (beB n 8) rest
  have e2 := takeLeft_app (beB n 8) rest
  have e3 := takeErr_app (beB n 8) rest
  rw [length_beB] at e1 e2 e3
  have e4 : deB (beB n 8) = y := by rw [de_be, ← hy]
  rw [show ((8 : Nat) : Int) = 8 from rfl] at e1 e2 e3
  rw [e1, e2, e3, e4] at H
  exact H
theorem back_raw (w : World) (p : Nat) (A : Option Addr) (c : Nat) (xs rest : List UInt8) (h : Rd 60 w p A c (xs ++ rest) 0) (hl : (xs ++ rest).length ≤ 140737488355328) :
    Calls Try.prog 25 #[.pointer (some ⟨p, 0, none⟩), .int .i64 (xs.length : Int)] w (Took 60 w p A xs rest 0) := by
  have H := rraw_any w p A c _ 0 (xs.length : Int) h hl
  rw [takeOut_app, takeLeft_app, takeErr_app] at H
  exact H

set_option maxHeartbeats 3200000 in
set_option maxRecDepth 100000 in
attribute [local go_sem ↓] Go.wp_at_zero Go.wp_at_succ in
theorem octetBack_walk (v0 : Value) (l : List CallV) (w : World) (o0 : CallsOfB w v0 l) :
    Calls Try.prog 8 #[v0] w fun e w' => e = .returned (.bool true) ∧ Below w.heap.size w w' := by
  have HWR := Lib.hid (written_any v0 l w o0)
  obtain ⟨o1, hsum⟩ := o0
  obtain ⟨A1, c1, rfl⟩ := o1.form
  have H1 := Lib.hid o1
  have hlen1 := o1.len
  have HS := Lib.hid hsum
  clear o1 hsum
  by_cases h60 : 60 < l.length
  · have t60 : decide (60 < (l.length : Int)) = true := by simp; omega
    go_enter Try.func8, Try.ntmps8
    go_wp2_with (go_at_call 14; refine (awake3_any _).mono ?_; rintro e w' ⟨rfl, hb9⟩)
    go_ret
    exact ⟨rfl, hb9⟩
  · have t60 : decide (60 < (l.length : Int)) = false := by simp; omega
    have hall : l.take 60 = l := List.take_of_length_le (by omega)
    have hlen := encAll_len l
    rw [hall] at HWR
    clear hall
    have HBS : Hid (encAll l = encAll (l.drop 0)) := Lib.hid (by simp)
    go_enter Try.func8, Try.ntmps8
    go_wp2_with fail
    refine HWR.out.mono ?_
    rintro en w1 ⟨A, c, A', c', rfl, h1, h2, hb1⟩
    have HRB := Lib.hid h1
    have HB1 := Lib.hid hb1
    have hsm := HS.out
    clear h1 h2 hb1 HWR
    go_wp2_with fail
    refine (newreader_any w1 w1.heap.size _ _ HRB.out (Nat.le_refl _) (by omega)).mono ?_
    rintro en w2 ⟨p, B, c2, rfl, hrd, hp, hB, hb2⟩
    rw [HBS.out] at hrd
    have HRD := Lib.hid hrd
    have HB2 := Lib.hid (HB1.out.trans (hb2.mono HB1.out.size))
    have hwp : w.heap.size ≤ p := by have := HB1.out.size; omega
    clear hrd hB hb2 HRB HB1 HBS
    go_wp2_with fail
    go_loopw [22] (fun i wr => ∃ k : Nat, k ≤ l.length ∧ i = .int .i64 k ∧ ∃ B c, Rd 60 wr p B c (encAll (l.drop k)) 0 ∧ Below w.heap.size w wr) (fun i _ => l.length - (intOf i).toNat)
    case atStart => exact ⟨0, by omega, rfl, _, _, HRD.out, HB2.out⟩
    case round =>
      clear HRD HB2
      obtain ⟨k, hk, rfl, B3, c3, hrd, hbel⟩ := hrel
      by_cases hlt : k < l.length
      · have hdl := encDrop_len l k
        have hdn := encDrop_len l (k + 1)
        obtain ⟨g, o, c6, x, e1, hxk, hok, hc0, hc1, hc2, hg⟩ := H1.out.at_ hbel hlt
        injection e1 with e1 _ e3
        subst e1 e3
        have hnx := encDrop_next hxk
        obtain ⟨dd, n, rv, raw⟩ := x
        obtain ⟨hd0, hd1, hn, hraw, hrl⟩ := hok
        dsimp only at hc0 hc1 hc2 hd0 hd1 hn hraw
        obtain ⟨A7, c7, rfl, _, _⟩ := hraw.form
        simp only [length_bytesV] at hraw hc2 hnx
        have hal : Below wr.heap.size wr (wr.alloc (.cells #[.int .i64 dd, .int .u64 n, .slice A7 raw.length c7] 46)) := (Below.refl _ wr).alloc (Nat.le_refl _) _
        have HRA := Lib.hid (hraw.below (hbel.trans (hal.mono hbel.size)))
        have HB4 := Lib.hid (hbel.trans (hal.mono hbel.size))
        have HK := Lib.hid (Blk.fresh wr 46 [.int .i64 dd, .int .u64 n, .slice A7 raw.length c7])
        have hrd4 := hrd.below hal
        have hpw := hrd.blk.lt
        rw [hnx] at hrd4 hdl
        obtain ⟨rest, hrest⟩ : ∃ rest, encAll (l.drop (k + 1)) = rest := ⟨_, rfl⟩
        rw [hrest] at hrd4 hdl
        have HRE := Lib.hid hrest
        clear hrest
        have hzz := hbel.size
        have HRX := Lib.hid hraw
        have HRK : Hid (∀ k' : Nat, k' = k + 1 → True) := Lib.hid (fun _ _ => trivial)
        clear hrd hbel hal hraw hxk hnx hrl HRK
        by_cases hd : dd = 0
        · subst hd
          have hen : encC ⟨0, n, .slice A7 raw.length c7, raw⟩ = beB n 1 := by unfold encC; simp only []; simp
          rw [hen] at hrd4 hdl
          clear hen
          have hlr : (beB n 1 ++ rest).length ≤ 140737488355328 := by have := HS.out; omega
          obtain ⟨y, hy⟩ : ∃ y : Nat, n % 256 = y := ⟨_, rfl⟩
          have hyb : y < 256 := by omega
          have HC := Lib.hid (back_u8 ((wr.alloc (.cells #[.int .i64 0, .int .u64 n, .slice A7 raw.length c7] 46)).drew) p _ _ n y rest hy (hrd4.below ((Below.refl _ _).drew)) hlr)
          have hand : bits .and .u64 (n : Int) 255 = (y : Int) := by rw [and255 n hn, hy]
          have hyy : ((y : Int) == (y : Int)) = true := by simp
          have hyn : (!((y : Int) == (y : Int))) = false := by simp
          have y0 : 0 ≤ (y : Int) := by omega
          have y1 : (y : Int) < 256 := by omega
          clear hlr hy
          go_upto_region 12 with fail
          have hS0 : ((wr.alloc (.cells #[.int .i64 0, .int .u64 n, .slice A7 raw.length c7] 46)).drew).cell? ⟨wr.heap.size, 1, none⟩ = some (.int .u64 n) := HK.out.drew.cell 1
          refine wp_region_held_drew (S := (fun w' => w'.cell? ⟨wr.heap.size, 1, none⟩ = some (.int .u64 n))) (by kernel_rfl) (hS0) (fun hHeld => ?_)
          refine' wpAnyH_take (i := 0) (v := _) rfl (by kernel_rfl) (by kernel_rfl) (by kernel_rfl) (fun _ _ _ h => h) (Or.inl ⟨by rfl, ?taq1⟩) (by assumption) ?tbq1
          case taq1 =>
            intro wS hSw
            (try dsimp only at hSw)
            go_simp
            (try (with_reducible rfl))
          (try simp only [List.getElem_toArray, List.getElem_cons_zero, List.getElem_cons_succ, Act.put, List.setIfInBounds_toArray, List.set_cons_zero, List.set_cons_succ])
          refine' wpAnyH_take (i := 2) (v := _) rfl (by kernel_rfl) (by kernel_rfl) (by kernel_rfl) (fun _ _ _ h => h) (Or.inl ⟨by rfl, ?taq2⟩) (by assumption) ?tbq2
          case taq2 =>
            intro wS hSw
            (try dsimp only at hSw)
            go_simp
            (try (with_reducible rfl))
          (try simp only [List.getElem_toArray, List.getElem_cons_zero, List.getElem_cons_succ, Act.put, List.setIfInBounds_toArray, List.set_cons_zero, List.set_cons_succ])
          refine' wpAnyH_take (i := 3) (v := _) rfl (by kernel_rfl) (by kernel_rfl) (by kernel_rfl) (fun _ _ _ h => h) (Or.inl ⟨by rfl, ?taq3⟩) (by assumption) ?tbq3
          case taq3 =>
            intro wS hSw
            (try dsimp only at hSw)
            go_simp
            (try (with_reducible rfl))
          (try simp only [List.getElem_toArray, List.getElem_cons_zero, List.getElem_cons_succ, Act.put, List.setIfInBounds_toArray, List.set_cons_zero, List.set_cons_succ])
          refine' wpAnyH_take (i := 4) (v := _) rfl (by kernel_rfl) (by kernel_rfl) (by kernel_rfl) (fun _ _ _ h => h) (Or.inl ⟨by rfl, ?taq4⟩) (by assumption) ?tbq4
          case taq4 =>
            intro wS hSw
            (try dsimp only at hSw)
            go_simp
            (try (with_reducible rfl))
          (try simp only [List.getElem_toArray, List.getElem_cons_zero, List.getElem_cons_succ, Act.put, List.setIfInBounds_toArray, List.set_cons_zero, List.set_cons_succ])
          refine' wpAnyH_take (i := 5) (v := _) rfl (by kernel_rfl) (by kernel_rfl) (by kernel_rfl) (fun _ _ _ h => h) (Or.inl ⟨by rfl, ?taq5⟩) (by assumption) ?tbq5
          case taq5 =>
            intro wS hSw
            (try dsimp only at hSw)
            go_simp
            (try (with_reducible rfl))
          (try simp only [List.getElem_toArray, List.getElem_cons_zero, List.getElem_cons_succ, Act.put, List.setIfInBounds_toArray, List.set_cons_zero, List.set_cons_succ])
          refine wpAnyH_ready (rs := [1]) (by kernel_rfl) (by simp) ?_
          refine AllReadyH.cons rfl (fun K9 hK9 => ?_) AllReadyH.nil
          (try simp only [List.getElem_toArray, List.getElem_cons_zero, List.getElem_cons_succ])
          go_simp
          refine HC.out.mono ?_
          rintro en w5 ⟨rfl, B5, c5, h5, b5, o5⟩
          have kc := HK.out.drew.off o5 (by show ¬ wr.heap.size = p; omega)
          have hS5 : w5.cell? ⟨wr.heap.size, 1, none⟩ = some (.int .u64 n) := kc.cell 1
          have HRD5 := Lib.hid h5
          have HB5 := Lib.hid ((HB4.out.drew).trans (o5.below (by show w.heap.size ≤ (wr.alloc _).heap.size; simp; omega) (fun i hi => by omega)))
          clear h5 b5 o5 kc
          refine hK9.out _ _ (hS5) (fun hHeld9 => ?_)
          clear hK9 K9
          (try simp only [List.getElem_toArray, List.getElem_cons_zero, List.getElem_cons_succ, Act.put, List.setIfInBounds_toArray, List.set_cons_zero, List.set_cons_succ])
          refine' wpAnyH_take (i := 6) (v := _) rfl (by kernel_rfl) (by kernel_rfl) (by kernel_rfl) (fun _ _ _ h => h) (Or.inl ⟨by rfl, ?taq6⟩) (by assumption) ?tbq6
          case taq6 =>
            intro wS hSw
            (try dsimp only at hSw)
            go_simp
            (try (with_reducible rfl))
          (try simp only [List.getElem_toArray, List.getElem_cons_zero, List.getElem_cons_succ, Act.put, List.setIfInBounds_toArray, List.set_cons_zero, List.set_cons_succ])
          refine' wpAnyH_take (i := 7) (v := _) rfl (by kernel_rfl) (by kernel_rfl) (by kernel_rfl) (fun _ _ _ h => h) (Or.inl ⟨by rfl, ?taq7⟩) (by assumption) ?tbq7
          case taq7 =>
            intro wS hSw
            (try dsimp only at hSw)
            go_simp
            (try (with_reducible rfl))
          (try simp only [List.getElem_toArray, List.getElem_cons_zero, List.getElem_cons_succ, Act.put, List.setIfInBounds_toArray, List.set_cons_zero, List.set_cons_succ])
          refine wpAnyH_done (by kernel_rfl) ?_ _
          rw [IntWalk.i64_in (y : Int) (by omega)]
          rw [show ((y : Int) == (y : Int)) = true from by simp]
          clear hyy hyn
          go_wp2
          go_roundw
          case rel => exact ⟨k + 1, by omega, by go_num, _, _, by rw [HRE.out]; exact HRD5.out, HB5.out⟩
          case measure => simp [intOf]; omega
        · have t2 : (dd == 0) = false := by simpa using hd
          clear hd
          by_cases hd : dd = 1
          · subst hd
            have hen : encC ⟨1, n, .slice A7 raw.length c7, raw⟩ = beB n 2 := by unfold encC; simp only []; simp
            rw [hen] at hrd4 hdl
            clear hen
            have hlr : (beB n 2 ++ rest).length ≤ 140737488355328 := by have := HS.out; omega
            obtain ⟨y, hy⟩ : ∃ y : Nat, n % 65536 = y := ⟨_, rfl⟩
            have hyb : y < 65536 := by omega
            have HC := Lib.hid (back_u16 ((wr.alloc (.cells #[.int .i64 1, .int .u64 n, .slice A7 raw.length c7] 46)).drew) p _ _ n y rest hy (hrd4.below ((Below.refl _ _).drew)) hlr)
            have hand : bits .and .u64 (n : Int) 65535 = (y : Int) := by rw [and65535 n hn, hy]
            have hyy : ((y : Int) == (y : Int)) = true := by simp
            have hyn : (!((y : Int) == (y : Int))) = false := by simp
            have y0 : 0 ≤ (y : Int) := by omega
            have y1 : (y : Int) < 65536 := by omega
            clear hlr hy
            go_upto_region 14 with fail
            have hS0 : ((wr.alloc (.cells #[.int .i64 1, .int .u64 n, .slice A7 raw.length c7] 46)).drew).cell? ⟨wr.heap.size, 1, none⟩ = some (.int .u64 n) := HK.out.drew.cell 1
            refine wp_region_held_drew (S := (fun w' => w'.cell? ⟨wr.heap.size, 1, none⟩ = some (.int .u64 n))) (by kernel_rfl) (hS0) (fun hHeld => ?_)
            refine' wpAnyH_take (i := 0) (v := _) rfl (by kernel_rfl) (by kernel_rfl) (by kernel_rfl) (fun _ _ _ h => h) (Or.inl ⟨by rfl, ?taq8⟩) (by assumption) ?tbq8
            case taq8 =>
              intro wS hSw
              (try dsimp only at hSw)
              go_simp
              (try (with_reducible rfl))
            (try simp only [List.getElem_toArray, List.getElem_cons_zero, List.getElem_cons_succ, Act.put, List.setIfInBounds_toArray, List.set_cons_zero, List.set_cons_succ])
            refine' wpAnyH_take (i := 2) (v := _) rfl (by kernel_rfl) (by kernel_rfl) (by kernel_rfl) (fun _ _ _ h => h) (Or.inl ⟨by rfl, ?taq9⟩) (by assumption) ?tbq9
            case taq9 =>
              intro wS hSw
              (try dsimp only at hSw)
              go_simp
              (try (with_reducible rfl))
            (try simp only [List.getElem_toArray, List.getElem_cons_zero, List.getElem_cons_succ, Act.put, List.setIfInBounds_toArray, List.set_cons_zero, List.set_cons_succ])
            refine' wpAnyH_take (i := 3) (v := _) rfl (by kernel_rfl) (by kernel_rfl) (by kernel_rfl) (fun _ _ _ h => h) (Or.inl ⟨by rfl, ?taq10⟩) (by assumption) ?tbq10
            case taq10 =>
              intro wS hSw
              (try dsimp only at hSw)
              go_simp
              (try (with_reducible rfl))
            (try simp only [List.getElem_toArray, List.getElem_cons_zero, List.getElem_cons_succ, Act.put, List.setIfInBounds_toArray, List.set_cons_zero, List.set_cons_succ])
            refine' wpAnyH_take (i := 4) (v := _) rfl (by kernel_rfl) (by kernel_rfl) (by kernel_rfl) (fun _ _ _ h => h) (Or.inl ⟨by rfl, ?taq11⟩) (by assumption) ?tbq11
            case taq11 =>
              intro wS hSw
              (try dsimp only at hSw)
              go_simp
              (try (with_reducible rfl))
            (try simp only [List.getElem_toArray, List.getElem_cons_zero, List.getElem_cons_succ, Act.put, List.setIfInBounds_toArray, List.set_cons_zero, List.set_cons_succ])
            refine' wpAnyH_take (i := 5) (v := _) rfl (by kernel_rfl) (by kernel_rfl) (by kernel_rfl) (fun _ _ _ h => h) (Or.inl ⟨by rfl, ?taq12⟩) (by assumption) ?tbq12
            case taq12 =>
              intro wS hSw
              (try dsimp only at hSw)
              go_simp
              (try (with_reducible rfl))
            (try simp only [List.getElem_toArray, List.getElem_cons_zero, List.getElem_cons_succ, Act.put, List.setIfInBounds_toArray, List.set_cons_zero, List.set_cons_succ])
            refine wpAnyH_ready (rs := [1]) (by kernel_rfl) (by simp) ?_
            refine AllReadyH.cons rfl (fun K9 hK9 => ?_) AllReadyH.nil
            (try simp only [List.getElem_toArray, List.getElem_cons_zero, List.getElem_cons_succ])
            go_simp
            refine HC.out.mono ?_
            rintro en w5 ⟨rfl, B5, c5, h5, b5, o5⟩
            have kc := HK.out.drew.off o5 (by show ¬ wr.heap.size = p; omega)
            have hS5 : w5.cell? ⟨wr.heap.size, 1, none⟩ = some (.int .u64 n) := kc.cell 1
            have HRD5 := Lib.hid h5
            have HB5 := Lib.hid ((HB4.out.drew).trans (o5.below (by show w.heap.size ≤ (wr.alloc _).heap.size; simp; omega) (fun i hi => by omega)))
            clear h5 b5 o5 kc
            refine hK9.out _ _ (hS5) (fun hHeld9 => ?_)
            clear hK9 K9
            (try simp only [List.getElem_toArray, List.getElem_cons_zero, List.getElem_cons_succ, Act.put, List.setIfInBounds_toArray, List.set_cons_zero, List.set_cons_succ])
            refine' wpAnyH_take (i := 6) (v := _) rfl (by kernel_rfl) (by kernel_rfl) (by kernel_rfl) (fun _ _ _ h => h) (Or.inl ⟨by rfl, ?taq13⟩) (by assumption) ?tbq13
            case taq13 =>
              intro wS hSw
              (try dsimp only at hSw)
              go_simp
              (try (with_reducible rfl))
            (try simp only [List.getElem_toArray, List.getElem_cons_zero, List.getElem_cons_succ, Act.put, List.setIfInBounds_toArray, List.set_cons_zero, List.set_cons_succ])
            refine' wpAnyH_take (i := 7) (v := _) rfl (by kernel_rfl) (by kernel_rfl) (by kernel_rfl) (fun _ _ _ h => h) (Or.inl ⟨by rfl, ?taq14⟩) (by assumption) ?tbq14
            case taq14 =>
              intro wS hSw
              (try dsimp only at hSw)
              go_simp
              (try (with_reducible rfl))
            (try simp only [List.getElem_toArray, List.getElem_cons_zero, List.getElem_cons_succ, Act.put, List.setIfInBounds_toArray, List.set_cons_zero, List.set_cons_succ])
            refine wpAnyH_done (by kernel_rfl) ?_ _
            rw [IntWalk.i64_in (y : Int) (by omega)]
            rw [show ((y : Int) == (y : Int)) = true from by simp]
            clear hyy hyn
            go_wp2
            go_roundw
            case rel => exact ⟨k + 1, by omega, by go_num, _, _, by rw [HRE.out]; exact HRD5.out, HB5.out⟩
            case measure => simp [intOf]; omega
          · have t3 : (dd == 1) = false := by simpa using hd
            clear hd
            by_cases hd : dd = 2
            · subst hd
              have hen : encC ⟨2, n, .slice A7 raw.length c7, raw⟩ = beB n 4 := by unfold encC; simp only []; simp
              rw [hen] at hrd4 hdl
              clear hen
              have hlr : (beB n 4 ++ rest).length ≤ 140737488355328 := by have := HS.out; omega
              obtain ⟨y, hy⟩ : ∃ y : Nat, n % 4294967296 = y := ⟨_, rfl⟩
              have hyb : y < 4294967296 := by omega
              have HC := Lib.hid (back_u32 ((wr.alloc (.cells #[.int .i64 2, .int .u64 n, .slice A7 raw.length c7] 46)).drew) p _ _ n y rest hy (hrd4.below ((Below.refl _ _).drew)) hlr)
              have hand : IntKind.u32.wrap (n : Int) = (y : Int) := by rw [IntKind.wrap_u32]; omega
              have hyy : ((y : Int) == (y : Int)) = true := by simp
              have hyn : (!((y : Int) == (y : Int))) = false := by simp
              clear hyb hn
              clear hlr hy
              go_upto_region 16 with fail
              have hS0 : ((wr.alloc (.cells #[.int .i64 2, .int .u64 n, .slice A7 raw.length c7] 46)).drew).cell? ⟨wr.heap.size, 1, none⟩ = some (.int .u64 n) := HK.out.drew.cell 1
              refine wp_region_held_drew (S := (fun w' => w'.cell? ⟨wr.heap.size, 1, none⟩ = some (.int .u64 n))) (by kernel_rfl) (hS0) (fun hHeld => ?_)
              refine' wpAnyH_take (i := 0) (v := _) rfl (by kernel_rfl) (by kernel_rfl) (by kernel_rfl) (fun _ _ _ h => h) (Or.inl ⟨by rfl, ?taq15⟩) (by assumption) ?tbq15
              case taq15 =>
                intro wS hSw
                (try dsimp only at hSw)
                go_simp
                (try (with_reducible rfl))
              (try simp only [List.getElem_toArray, List.getElem_cons_zero, List.getElem_cons_succ, Act.put, List.setIfInBounds_toArray, List.set_cons_zero, List.set_cons_succ])
              refine' wpAnyH_take (i := 2) (v := _) rfl (by kernel_rfl) (by kernel_rfl) (by kernel_rfl) (fun _ _ _ h => h) (Or.inl ⟨by rfl, ?taq16⟩) (by assumption) ?tbq16
              case taq16 =>
                intro wS hSw
                (try dsimp only at hSw)
                go_simp
                (try (with_reducible rfl))
              (try simp only [List.getElem_toArray, List.getElem_cons_zero, List.getElem_cons_succ, Act.put, List.setIfInBounds_toArray, List.set_cons_zero, List.set_cons_succ])
              refine' wpAnyH_take (i := 3) (v := _) rfl (by kernel_rfl) (by kernel_rfl) (by kernel_rfl) (fun _ _ _ h => h) (Or.inl ⟨by rfl, ?taq17⟩) (by assumption) ?tbq17
              case taq17 =>
                intro wS hSw
                (try dsimp only at hSw)
                go_simp
                (try (with_reducible rfl))
              (try simp only [List.getElem_toArray, List.getElem_cons_zero, List.getElem_cons_succ, Act.put, List.setIfInBounds_toArray, List.set_cons_zero, List.set_cons_succ])
              refine' wpAnyH_take (i := 4) (v := _) rfl (by kernel_rfl) (by kernel_rfl) (by kernel_rfl) (fun _ _ _ h => h) (Or.inl ⟨by rfl, ?taq18⟩) (by assumption) ?tbq18
              case taq18 =>
                intro wS hSw
                (try dsimp only at hSw)
                go_simp
                (try (with_reducible rfl))
              (try simp only [List.getElem_toArray, List.getElem_cons_zero, List.getElem_cons_succ, Act.put, List.setIfInBounds_toArray, List.set_cons_zero, List.set_cons_succ])
              refine wpAnyH_ready (rs := [1]) (by kernel_rfl) (by simp) ?_
              refine AllReadyH.cons rfl (fun K9 hK9 => ?_) AllReadyH.nil
              (try simp only [List.getElem_toArray, List.getElem_cons_zero, List.getElem_cons_succ])
              go_simp
              refine HC.out.mono ?_
              rintro en w5 ⟨rfl, B5, c5, h5, b5, o5⟩
              have kc := HK.out.drew.off o5 (by show ¬ wr.heap.size = p; omega)
              have hS5 : w5.cell? ⟨wr.heap.size, 1, none⟩ = some (.int .u64 n) := kc.cell 1
              have HRD5 := Lib.hid h5
              have HB5 := Lib.hid ((HB4.out.drew).trans (o5.below (by show w.heap.size ≤ (wr.alloc _).heap.size; simp; omega) (fun i hi => by omega)))
              clear h5 b5 o5 kc
              refine hK9.out _ _ (hS5) (fun hHeld9 => ?_)
              clear hK9 K9
              (try simp only [List.getElem_toArray, List.getElem_cons_zero, List.getElem_cons_succ, Act.put, List.setIfInBounds_toArray, List.set_cons_zero, List.set_cons_succ])
              refine' wpAnyH_take (i := 5) (v := _) rfl (by kernel_rfl) (by kernel_rfl) (by kernel_rfl) (fun _ _ _ h => h) (Or.inl ⟨by rfl, ?taq19⟩) (by assumption) ?tbq19
              case taq19 =>
                intro wS hSw
                (try dsimp only at hSw)
                go_simp
                (try (with_reducible rfl))
              (try simp only [List.getElem_toArray, List.getElem_cons_zero, List.getElem_cons_succ, Act.put, List.setIfInBounds_toArray, List.set_cons_zero, List.set_cons_succ])
              refine' wpAnyH_take (i := 6) (v := _) rfl (by kernel_rfl) (by kernel_rfl) (by kernel_rfl) (fun _ _ _ h => h) (Or.inl ⟨by rfl, ?taq20⟩) (by assumption) ?tbq20
              case taq20 =>
                intro wS hSw
                (try dsimp only at hSw)
                go_simp
                (try (with_reducible rfl))
              (try simp only [List.getElem_toArray, List.getElem_cons_zero, List.getElem_cons_succ, Act.put, List.setIfInBounds_toArray, List.set_cons_zero, List.set_cons_succ])
              refine wpAnyH_done (by kernel_rfl) ?_ _
              clear hyy hyn
              clear hand
              go_wp2
              go_roundw
              case rel => exact ⟨k + 1, by omega, by go_num, _, _, by rw [HRE.out]; exact HRD5.out, HB5.out⟩
              case measure => simp [intOf]; omega
            · have t4 : (dd == 2) = false := by simpa using hd
              clear hd
              by_cases hd : dd = 3
              · subst hd
                have hen : encC ⟨3, n, .slice A7 raw.length c7, raw⟩ = beB n 8 := by unfold encC; simp only []; simp
                rw [hen] at hrd4 hdl
                clear hen
                have hlr : (beB n 8 ++ rest).length ≤ 140737488355328 := by have := HS.out; omega
                obtain ⟨y, hy⟩ : ∃ y : Nat, n % 18446744073709551616 = y := ⟨_, rfl⟩
                have hyb : y < 18446744073709551616 := by omega
                have HC := Lib.hid (back_u64 ((wr.alloc (.cells #[.int .i64 3, .int .u64 n, .slice A7 raw.length c7] 46)).drew) p _ _ n y rest hy (hrd4.below ((Below.refl _ _).drew)) hlr)
                obtain rfl : y = n := by omega
                have hyy : ((y : Int) == (y : Int)) = true := by simp
                have hyn : (!((y : Int) == (y : Int))) = false := by simp
                clear hyb hn hd0 hd1
                clear hlr
                go_upto_region 18 with fail
                have hS0 : ((wr.alloc (.cells #[.int .i64 3, .int .u64 y, .slice A7 raw.length c7] 46)).drew).cell? ⟨wr.heap.size, 1, none⟩ = some (.int .u64 y) := HK.out.drew.cell 1
                refine wp_region_held_drew (S := (fun w' => w'.cell? ⟨wr.heap.size, 1, none⟩ = some (.int .u64 y))) (by kernel_rfl) (hS0) (fun hHeld => ?_)
                refine' wpAnyH_take (i := 0) (v := _) rfl (by kernel_rfl) (by kernel_rfl) (by kernel_rfl) (fun _ _ _ h => h) (Or.inl ⟨by rfl, ?taq21⟩) (by assumption) ?tbq21
                case taq21 =>
                  intro wS hSw
                  (try dsimp only at hSw)
                  go_simp
                  (try (with_reducible rfl))
                (try simp only [List.getElem_toArray, List.getElem_cons_zero, List.getElem_cons_succ, Act.put, List.setIfInBounds_toArray, List.set_cons_zero, List.set_cons_succ])
                refine' wpAnyH_take (i := 2) (v := _) rfl (by kernel_rfl) (by kernel_rfl) (by kernel_rfl) (fun _ _ _ h => h) (Or.inl ⟨by rfl, ?taq22⟩) (by assumption) ?tbq22
                case taq22 =>
                  intro wS hSw
                  (try dsimp only at hSw)
                  go_simp
                  (try (with_reducible rfl))
                (try simp only [List.getElem_toArray, List.getElem_cons_zero, List.getElem_cons_succ, Act.put, List.setIfInBounds_toArray, List.set_cons_zero, List.set_cons_succ])
                refine' wpAnyH_take (i := 3) (v := _) rfl (by kernel_rfl) (by kernel_rfl) (by kernel_rfl) (fun _ _ _ h => h) (Or.inl ⟨by rfl, ?taq23⟩) (by assumption) ?tbq23
                case taq23 =>
                  intro wS hSw
                  (try dsimp only at hSw)
                  go_simp
                  (try (with_reducible rfl))
                (try simp only [List.getElem_toArray, List.getElem_cons_zero, List.getElem_cons_succ, Act.put, List.setIfInBounds_toArray, List.set_cons_zero, List.set_cons_succ])
                refine wpAnyH_ready (rs := [1]) (by kernel_rfl) (by simp) ?_
                refine AllReadyH.cons rfl (fun K9 hK9 => ?_) AllReadyH.nil
                (try simp only [List.getElem_toArray, List.getElem_cons_zero, List.getElem_cons_succ])
                go_simp
                refine HC.out.mono ?_
                rintro en w5 ⟨rfl, B5, c5, h5, b5, o5⟩
                have kc := HK.out.drew.off o5 (by show ¬ wr.heap.size = p; omega)
                have hS5 : w5.cell? ⟨wr.heap.size, 1, none⟩ = some (.int .u64 y) := kc.cell 1
                have HRD5 := Lib.hid h5
                have HB5 := Lib.hid ((HB4.out.drew).trans (o5.below (by show w.heap.size ≤ (wr.alloc _).heap.size; simp; omega) (fun i hi => by omega)))
                clear h5 b5 o5 kc
                refine hK9.out _ _ (hS5) (fun hHeld9 => ?_)
                clear hK9 K9
                (try simp only [List.getElem_toArray, List.getElem_cons_zero, List.getElem_cons_succ, Act.put, List.setIfInBounds_toArray, List.set_cons_zero, List.set_cons_succ])
                refine' wpAnyH_take (i := 4) (v := _) rfl (by kernel_rfl) (by kernel_rfl) (by kernel_rfl) (fun _ _ _ h => h) (Or.inl ⟨by rfl, ?taq24⟩) (by assumption) ?tbq24
                case taq24 =>
                  intro wS hSw
                  (try dsimp only at hSw)
                  go_simp
                  (try (with_reducible rfl))
                (try simp only [List.getElem_toArray, List.getElem_cons_zero, List.getElem_cons_succ, Act.put, List.setIfInBounds_toArray, List.set_cons_zero, List.set_cons_succ])
                refine' wpAnyH_take (i := 5) (v := _) rfl (by kernel_rfl) (by kernel_rfl) (by kernel_rfl) (fun _ _ _ h => h) (Or.inl ⟨by rfl, ?taq25⟩) (by assumption) ?tbq25
                case taq25 =>
                  intro wS hSw
                  (try dsimp only at hSw)
                  go_simp
                  (try (with_reducible rfl))
                (try simp only [List.getElem_toArray, List.getElem_cons_zero, List.getElem_cons_succ, Act.put, List.setIfInBounds_toArray, List.set_cons_zero, List.set_cons_succ])
                refine wpAnyH_done (by kernel_rfl) ?_ _
                clear hyy hyn
                go_wp2
                go_roundw
                case rel => exact ⟨k + 1, by omega, by go_num, _, _, by rw [HRE.out]; exact HRD5.out, HB5.out⟩
                case measure => simp [intOf]; omega
              · have t5 : (dd == 3) = false := by simpa using hd
                clear hd
                have hen : encC ⟨dd, n, .slice A7 raw.length c7, raw⟩ = raw := by unfold encC; simp only []; rw [if_neg (by simpa using t2), if_neg (by simpa using t3), if_neg (by simpa using t4), if_neg (by simpa using t5)]
                rw [hen] at hrd4 hdl
                clear hen
                have hlr : (raw ++ rest).length ≤ 140737488355328 := by have := HS.out; omega
                have HC := Lib.hid (back_raw ((wr.alloc (.cells #[.int .i64 dd, .int .u64 n, .slice A7 raw.length c7] 46)).drew) p _ _ raw rest (hrd4.below ((Below.refl _ _).drew)) hlr)
                have q1 : ∀ W, Below w.heap.size w W → (convert 24 9 (.slice A7 raw.length c7)).run Try.prog W = .ok (.string ⟨raw.toArray⟩) W := fun W hW => run_str (HRX.out.below hW)
                have HQ1 := Lib.hid q1
                clear q1
                clear hlr
                go_upto_region 10 with fail
                have hS0 : ((wr.alloc (.cells #[.int .i64 dd, .int .u64 n, .slice A7 raw.length c7] 46)).drew).cell? ⟨wr.heap.size, 2, none⟩ = some (.slice A7 raw.length c7) := HK.out.drew.cell 2
                refine wp_region_held_drew (S := (fun w' => w'.cell? ⟨wr.heap.size, 2, none⟩ = some (.slice A7 raw.length c7) ∧ (convert 24 9 (.slice A7 raw.length c7)).run Try.prog w' = .ok (.string ⟨raw.toArray⟩) w')) (by kernel_rfl) (⟨hS0, HQ1.out _ HB4.out.drew⟩) (fun hHeld => ?_)
                refine' wpAnyH_take (i := 0) (v := _) rfl (by kernel_rfl) (by kernel_rfl) (by kernel_rfl) (fun _ _ _ h => h) (Or.inl ⟨by rfl, ?taq26⟩) (by assumption) ?tbq26
                case taq26 =>
                  intro wS hSw
                  (try dsimp only at hSw)
                  go_simp
                  (try (with_reducible rfl))
                (try simp only [List.getElem_toArray, List.getElem_cons_zero, List.getElem_cons_succ, Act.put, List.setIfInBounds_toArray, List.set_cons_zero, List.set_cons_succ])
                refine' wpAnyH_take (i := 1) (v := _) rfl (by kernel_rfl) (by kernel_rfl) (by kernel_rfl) (fun _ _ _ h => h) (Or.inl ⟨by rfl, ?taq27⟩) (by assumption) ?tbq27
                case taq27 =>
                  intro wS hSw
                  (try dsimp only at hSw)
                  go_simp
                  (try (with_reducible rfl))
                (try simp only [List.getElem_toArray, List.getElem_cons_zero, List.getElem_cons_succ, Act.put, List.setIfInBounds_toArray, List.set_cons_zero, List.set_cons_succ])
                refine' wpAnyH_take (i := 2) (v := _) rfl (by kernel_rfl) (by kernel_rfl) (by kernel_rfl) (fun _ _ _ h => h) (Or.inl ⟨by rfl, ?taq28⟩) (by assumption) ?tbq28
                case taq28 =>
                  intro wS hSw
                  (try dsimp only at hSw)
                  go_simp
                  (try (with_reducible rfl))
                (try simp only [List.getElem_toArray, List.getElem_cons_zero, List.getElem_cons_succ, Act.put, List.setIfInBounds_toArray, List.set_cons_zero, List.set_cons_succ])
                refine' wpAnyH_take (i := 3) (v := _) rfl (by kernel_rfl) (by kernel_rfl) (by kernel_rfl) (fun _ _ _ h => h) (Or.inl ⟨by rfl, ?taq29⟩) (by assumption) ?tbq29
                case taq29 =>
                  intro wS hSw
                  (try dsimp only at hSw)
                  go_simp
                  (try (with_reducible rfl))
                (try simp only [List.getElem_toArray, List.getElem_cons_zero, List.getElem_cons_succ, Act.put, List.setIfInBounds_toArray, List.set_cons_zero, List.set_cons_succ])
                refine' wpAnyH_take (i := 6) (v := _) rfl (by kernel_rfl) (by kernel_rfl) (by kernel_rfl) (fun _ _ _ h => h) (Or.inl ⟨by rfl, ?taq30⟩) (by assumption) ?tbq30
                case taq30 =>
                  intro wS hSw
                  (try dsimp only at hSw)
                  go_simp
                  (try (with_reducible rfl))
                (try simp only [List.getElem_toArray, List.getElem_cons_zero, List.getElem_cons_succ, Act.put, List.setIfInBounds_toArray, List.set_cons_zero, List.set_cons_succ])
                refine' wpAnyH_take (i := 7) (v := _) rfl (by kernel_rfl) (by kernel_rfl) (by kernel_rfl) (fun _ _ _ h => h) (Or.inl ⟨by rfl, ?taq31⟩) (by assumption) ?tbq31
                case taq31 =>
                  intro wS hSw
                  (try dsimp only at hSw)
                  go_simp
                  (try (with_reducible rfl))
                (try simp only [List.getElem_toArray, List.getElem_cons_zero, List.getElem_cons_succ, Act.put, List.setIfInBounds_toArray, List.set_cons_zero, List.set_cons_succ])
                refine' wpAnyH_take (i := 8) (v := _) rfl (by kernel_rfl) (by kernel_rfl) (by kernel_rfl) (fun _ _ _ h => h) (Or.inl ⟨by rfl, ?taq32⟩) (by assumption) ?tbq32
                case taq32 =>
                  intro wS hSw
                  (try dsimp only at hSw)
                  go_simp
                  (try (with_reducible rfl))
                (try simp only [List.getElem_toArray, List.getElem_cons_zero, List.getElem_cons_succ, Act.put, List.setIfInBounds_toArray, List.set_cons_zero, List.set_cons_succ])
                refine wpAnyH_ready (rs := [4]) (by kernel_rfl) (by simp) ?_
                refine AllReadyH.cons rfl (fun K9 hK9 => ?_) AllReadyH.nil
                (try simp only [List.getElem_toArray, List.getElem_cons_zero, List.getElem_cons_succ])
                go_simp
                refine HC.out.mono ?_
                rintro en w5 ⟨A9, c9, B5, c5, rfl, hown5, h5, b5, o5⟩
                have kc := HK.out.drew.off o5 (by show ¬ wr.heap.size = p; omega)
                have hS5 : w5.cell? ⟨wr.heap.size, 2, none⟩ = some (.slice A7 raw.length c7) := kc.cell 2
                have HRD5 := Lib.hid h5
                have HB5 := Lib.hid ((HB4.out.drew).trans (o5.below (by show w.heap.size ≤ (wr.alloc _).heap.size; simp; omega) (fun i hi => by omega)))
                clear h5 b5 o5 kc
                have q5 := run_str (Reads.of_own hown5)
                have q5b := HQ1.out _ HB5.out
                clear hown5
                refine hK9.out _ _ (⟨hS5, q5b⟩) (fun hHeld9 => ?_)
                clear hK9 K9
                (try simp only [List.getElem_toArray, List.getElem_cons_zero, List.getElem_cons_succ, Act.put, List.setIfInBounds_toArray, List.set_cons_zero, List.set_cons_succ])
                refine wpAnyH_ready (rs := [5]) (by kernel_rfl) (by simp) ?_
                refine AllReadyH.cons rfl (fun K9 hK9 => ?_) AllReadyH.nil
                (try simp only [List.getElem_toArray, List.getElem_cons_zero, List.getElem_cons_succ])
                go_simp
                refine hK9.out _ _ (⟨hS5, q5b⟩) (fun hHeld9 => ?_)
                clear hK9 K9
                (try simp only [List.getElem_toArray, List.getElem_cons_zero, List.getElem_cons_succ, Act.put, List.setIfInBounds_toArray, List.set_cons_zero, List.set_cons_succ])
                refine' wpAnyH_take (i := 9) (v := _) rfl (by kernel_rfl) (by kernel_rfl) (by kernel_rfl) (fun _ _ _ h => h) (Or.inl ⟨by rfl, ?taq33⟩) (by assumption) ?tbq33
                case taq33 =>
                  intro wS hSw
                  (try dsimp only at hSw)
                  go_simp
                  (try (with_reducible rfl))
                (try simp only [List.getElem_toArray, List.getElem_cons_zero, List.getElem_cons_succ, Act.put, List.setIfInBounds_toArray, List.set_cons_zero, List.set_cons_succ])
                refine' wpAnyH_take (i := 10) (v := _) rfl (by kernel_rfl) (by kernel_rfl) (by kernel_rfl) (fun _ _ _ h => h) (Or.inl ⟨by rfl, ?taq34⟩) (by assumption) ?tbq34
                case taq34 =>
                  intro wS hSw
                  (try dsimp only at hSw)
                  go_simp
                  (try (with_reducible rfl))
                (try simp only [List.getElem_toArray, List.getElem_cons_zero, List.getElem_cons_succ, Act.put, List.setIfInBounds_toArray, List.set_cons_zero, List.set_cons_succ])
                refine wpAnyH_done (by kernel_rfl) ?_ _
                go_wp2
                go_roundw
                case rel => exact ⟨k + 1, by omega, by go_num, _, _, by rw [HRE.out]; exact HRD5.out, HB5.out⟩
                case measure => simp [intOf]; omega
      · obtain rfl : k = l.length := by omega
        rw [List.drop_length] at hrd
        have hbs : encAll ([] : List CallV) = [] := rfl
        rw [hbs] at hrd
        have HRD := Lib.hid hrd
        have HB9 := Lib.hid hbel
        clear hrd hbel hbs
        go_wp2_with (first
          | (go_at_call 27; refine (left_any _ p _ _ _ _ HRD.out).mono ?_; rintro e w' ⟨rfl, rfl⟩)
          | (go_at_call 28; refine (end_any _ p _ _ _ _ HRD.out).mono ?_; rintro e w' ⟨rfl, rfl⟩; rw [show endErr [] 0 = 0 from rfl])
          | (go_at_call 14; refine (awake3_any _).mono ?_; rintro e w' ⟨rfl, hb9⟩))
        go_ret
        exact ⟨rfl, HB9.out.trans (hb9.mono HB9.out.size)⟩
end Go.Proofs.Ythnebanlpmehjaa
