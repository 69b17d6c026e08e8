/- Contracts of codec's reader: check, tensor. -/
import Derived.Test.YtcjpibdgnjncmaaCodDecP
import Derived.Test.YtcjpibdgnjncmaaKept
import Derived.Deep.DeepCutAuto
import Derived.Deep.CutBlock
namespace Go.Proofs.Ytcjpibdgnjncmaa
open Go.RowKit
set_option linter.unusedVariables false
set_option linter.unusedSimpArgs false

def Checked (w : World) (q p : Nat) (A : Option Addr) (c : Nat) (z : CS) (en : Ending) (w' : World) : Prop :=
  en = .returned (.bool (decide (z.e = 0))) ∧ CR w' q p A c z ∧ Off (fun i => i = q) w w'
set_option maxRecDepth 100000 in
theorem check_any (w : World) (q p : Nat) (A : Option Addr) (c : Nat) (z : CS) (ok : Bool) (h : CR w q p A c z) (z' : CS) (hz : chk z ok = z') :
    Calls Try.prog 24 #[.pointer (some ⟨q, 0, none⟩), .bool ok] w (Checked w q p A c z') := by
  subst hz
  have hk := Lib.hid h.blk
  have lq := h.lt.1
  have HE := Lib.hid (end_any w p A c z.s.1 z.s.2 h.rd)
  have HC := Lib.hid h
  have f1 := hk.out.free 1
  have m0 := hk.out.cell 0
  have m1 := hk.out.cell 1
  simp only [List.getElem?_cons_zero, List.getElem?_cons_succ] at m0 m1
  obtain ⟨e, s⟩ := z
  dsimp only at m0 m1 HE
  by_cases h0 : e = 0
  · subst h0
    obtain ⟨er, her⟩ : ∃ er, endErr s.1 s.2 = er := ⟨_, rfl⟩
    rw [her] at HE
    have HER := Lib.hid her
    clear her h hk
    by_cases h4 : er = 4
    · subst h4
      have HZ : Hid (chk ⟨0, s⟩ ok = ⟨4, s⟩) := Lib.hid (by unfold chk; rw [if_neg (by simp), if_pos HER.out])
      have HP := Lib.hid (HC.out.put 4)
      rw [HZ.out]
      clear HZ
      go_enter Try.func24, Try.ntmps24
      go_wp2_with fail
      refine HE.out.mono ?_
      rintro en w1 ⟨rfl, rfl⟩
      go_wp2_with fail
      go_ret
      exact ⟨rfl, HP.out, (Off.refl (fun i => i = q) w).setCell (p := ⟨q, 1, none⟩) (.inl rfl) _⟩
    · have t4 : (er == 4) = false := by simpa using h4
      cases ok with
      | true =>
        have HZ : Hid (chk ⟨0, s⟩ true = ⟨0, s⟩) := Lib.hid (by unfold chk; rw [if_neg (by simp), if_neg (by rw [HER.out]; exact h4), if_pos rfl])
        rw [HZ.out]
        clear HZ h4
        go_enter Try.func24, Try.ntmps24
        go_wp2_with fail
        refine HE.out.mono ?_
        rintro en w1 ⟨rfl, rfl⟩
        go_wp2_with fail
        go_ret
        exact ⟨rfl, HC.out, Off.refl _ _⟩
      | false =>
        have HZ : Hid (chk ⟨0, s⟩ false = ⟨5, s⟩) := Lib.hid (by unfold chk; rw [if_neg (by simp), if_neg (by rw [HER.out]; exact h4), if_neg (by decide)])
        have HP := Lib.hid (HC.out.put 5)
        rw [HZ.out]
        clear HZ h4
        go_enter Try.func24, Try.ntmps24
        go_wp2_with fail
        refine HE.out.mono ?_
        rintro en w1 ⟨rfl, rfl⟩
        go_wp2_with fail
        go_ret
        exact ⟨rfl, HP.out, (Off.refl (fun i => i = q) w).setCell (p := ⟨q, 1, none⟩) (.inl rfl) _⟩
  · have t0 : (e != 0) = true := by simpa using h0
    have t0' : (e == 0) = false := by simpa using h0
    have HZ : Hid (chk ⟨e, s⟩ ok = ⟨e, s⟩) := Lib.hid (by unfold chk; rw [if_pos h0])
    have HD : Hid (decide (e = 0) = false) := Lib.hid (decide_eq_false h0)
    rw [HZ.out]
    clear HZ h0 h hk
    go_enter Try.func24, Try.ntmps24
    go_wp2_with fail
    go_ret
    exact ⟨by simp only [HD.out]; rfl, HC.out, Off.refl _ _⟩
theorem elem_i8k : ElemOf Try.prog 38 81 (.int .i8 0) 1 := ⟨Try.underlying38, by kernel_rfl, rfl⟩
theorem wrap64_i8 (n : Int) : wrap64 (IntKind.i8.wrap n) = IntKind.i8.wrap n := by
  have h := i8_in n
  unfold wrap64
  omega
/-- a tensor was read -/
def TenRd (w : World) (q p : Nat) (A : Option Addr) (dv : Value) (t : TD) (en : Ending) (w' : World) : Prop :=
  ∃ A' c' xv, en = .returned (.agg #[dv, .int .i64 t.e, xv]) ∧ w'.ownsRow w.heap.size 81 1 xv t.x.length (ints .i8 t.x) ∧ CR w' q p A' c' t.z ∧ SameA A A' ∧ Off (fun i => i = p ∨ i = q) w w'
theorem i8s_take (out : List UInt8) (m : Nat) (h : m < out.length) : i8s (out.take (m + 1)) = i8s (out.take m) ++ [IntKind.i8.wrap (out[m].toNat : Int)] := by
  unfold i8s
  rw [List.take_add_one, List.getElem?_eq_getElem h, List.map_append]
  rfl
set_option maxHeartbeats 3200000 in
set_option maxRecDepth 100000 in
theorem rtensor_any (w : World) (q p : Nat) (A : Option Addr) (c : Nat) (z : CS) (h : CR w q p A c z) (dv : Value) (d : List Int) (hd : RowS (fun g => g ≠ p ∧ g ≠ q) w dv (ints .i64 d)) (hdb : ∀ x ∈ d, -9223372036854775808 ≤ x ∧ x ≤ 9223372036854775807) (t : TD) (ht : decT z d = t) :
    Calls Try.prog 58 #[.pointer (some ⟨q, 0, none⟩), dv] w (TenRd w q p A dv t) := by
  obtain ⟨Ad, cd, rfl⟩ := hd.form
  rw [length_ints] at *
  have HD := Lib.hid hd
  have HDB := Lib.hid hdb
  have hlq := h.lt
  have hb0 := (Below.refl w.heap.size w).alloc (Nat.le_refl _) (.cells #[.slice none 0 0, .int .i64 0, .slice none 0 0] 40)
  have HB0 := Lib.hid hb0
  have HC0 := Lib.hid (h.below hb0)
  have K4 := Lib.hid (Blk.fresh w 40 [.slice none 0 0, .int .i64 0, .slice none 0 0])
  have hlen := h.len
  have HALT := Lib.hid h.alt
  obtain ⟨s1, hs1⟩ : ∃ s1, rds z.s 1 = s1 := ⟨_, rfl⟩
  obtain ⟨n1, hn1⟩ : ∃ n1, deB (rdt z.s 1) = n1 := ⟨_, rfl⟩
  have HT := Lib.hid (ru8_any _ p A c z.s.1 z.s.2 HC0.out.rd (by omega))
  rw [show deB (takeOut z.s.1 z.s.2 1) = n1 from hn1, show takeLeft z.s.1 z.s.2 1 = s1.1 by rw [← hs1]; rfl, show takeErr z.s.1 z.s.2 1 = s1.2 by rw [← hs1]; rfl] at HT
  have l1 : s1.1.length ≤ z.s.1.length := by rw [← hs1]; exact rds_len _ _
  have HTD : Hid (t = ⟨chk ⟨z.e, rds s1 (sizeI d)⟩ (mayB d (IntKind.i8.wrap (n1 : Int)) (i8s (rdt s1 (sizeI d)))), IntKind.i8.wrap (n1 : Int), i8s (rdt s1 (sizeI d))⟩) := Lib.hid (by rw [← ht]; unfold decT; rw [hs1, hn1])
  clear ht hs1 hn1 hd hdb h
  have hk := Lib.hid HC0.out.blk
  have m0 := hk.out.cell 0
  have m1 := hk.out.cell 1
  simp only [List.getElem?_cons_zero, List.getElem?_cons_succ] at m0 m1
  have lq0 := HC0.out.lt.1
  clear hb0 hk
  go_enter Try.func58, Try.ntmps58
  go_wp2_with fail
  generalize (w.alloc (.cells #[.slice none 0 0, .int .i64 0, .slice none 0 0] 40)) = w0 at HB0 HC0 K4 HT m0 m1 lq0 ⊢
  refine HT.out.mono ?_
  clear HT
  rintro en w2 ⟨rfl, A2, c2, hrd, hA, ho⟩
  have HC2 := Lib.hid (HC0.out.read (s' := s1) hrd hA ho l1)
  have HA2 : Hid (SameA A A2) := Lib.hid hA
  have hp4 : w.heap.size ≠ p := by omega
  have K42 := Lib.hid (K4.out.off ho hp4)
  have HO2 : Hid (Off (fun i => i = p ∨ i = q) w w2) := Lib.hid (((Off.of_below (S := fun i => i = p ∨ i = q) HB0.out (fun i hi => .inr hi))).trans ho (fun i hi => .inl (.inl hi)))
  obtain ⟨ex, hex⟩ : ∃ ex, IntKind.i8.wrap (n1 : Int) = ex := ⟨_, rfl⟩
  have hex2 : wrap64 ex = ex := by rw [← hex]; exact wrap64_i8 _
  have hexb := i8_in (n1 : Int)
  rw [hex] at HTD hexb
  clear hrd hA ho m0 m1 HC0 K4 HB0
  go_upto_region 2 with fail
  (try rw [hex])
  (try rw [hex2])
  have HEXB := Lib.hid hexb
  clear hex hex2 hexb
  have hs0 := HC2.out.lt
  have hO2 := HO2.out.size
  have hb3 := (Below.refl w2.heap.size w2).alloc (Nat.le_refl _) (.cells #[.slice Ad d.length cd, .int .i64 ex, .slice none 0 0] 40)
  have HC3 := Lib.hid (HC2.out.below hb3)
  have K5 := Lib.hid (Blk.fresh w2 40 [.slice Ad d.length cd, .int .i64 ex, .slice none 0 0])
  have K43 := Lib.hid (K42.out.below hb3 K42.out.lt)
  have HO3 : Hid (Off (fun i => i = p ∨ i = q) w (w2.alloc (.cells #[.slice Ad d.length cd, .int .i64 ex, .slice none 0 0] 40))) := Lib.hid (HO2.out.alloc _)
  have hw3 : w2.heap.size < (w2.alloc (.cells #[.slice Ad d.length cd, .int .i64 ex, .slice none 0 0] 40)).heap.size := by simp
  have hw4 := K42.out.lt
  clear hb3 HC2 K42 HO2
  generalize (w2.alloc (.cells #[.slice Ad d.length cd, .int .i64 ex, .slice none 0 0] 40)) = w3 at HC3 K5 K43 HO3 hw3 ⊢
  generalize w2.heap.size = g5 at K5 hw3 hs0 hO2 hw4 ⊢
  have hdr : Below w3.heap.size w3 w3.drew := (Below.refl _ _).drew
  have HC4 := Lib.hid (HC3.out.below hdr)
  have HO4 := Lib.hid HO3.out.drew
  have K54 := Lib.hid (K5.out.drew)
  have K44 := Lib.hid (K43.out.drew)
  have z3 : w3.drew.heap.size = w3.heap.size := rfl
  clear hdr HC3 HO3 K5 K43
  rw [← z3] at hw3
  have hk := Lib.hid HC4.out.blk
  have lq3 := HC4.out.lt.1
  have m0 := hk.out.cell 0
  simp only [List.getElem?_cons_zero, List.getElem?_cons_succ] at m0
  refine wp_region_held_drew (S := ((fun w' => w'.cell? ⟨q, 0, none⟩ = some (.pointer (some ⟨p, 0, none⟩))))) (by kernel_rfl) (m0) (fun hHeld => ?_)
  clear hk m0 z3
  generalize w3.drew = w3 at HC4 HO4 K54 K44 hw3 lq3 hHeld ⊢
  refine' wpAnyH_take (i := 0) (v := _) rfl (by kernel_rfl) (by kernel_rfl) (by kernel_rfl) (fun _ _ _ h => h) (Or.inl ⟨by rfl, ?taq1⟩) (by assumption) ?tbq1
  case taq1 =>
    intro wS hSw
    (try dsimp only at hSw)
    go_simp
    (try (with_reducible rfl))
  (try simp only [List.getElem_toArray, List.getElem_cons_zero, List.getElem_cons_succ, Act.put, List.setIfInBounds_toArray, List.set_cons_zero, List.set_cons_succ])
  refine' wpAnyH_take (i := 1) (v := _) rfl (by kernel_rfl) (by kernel_rfl) (by kernel_rfl) (fun _ _ _ h => h) (Or.inl ⟨by rfl, ?taq2⟩) (by assumption) ?tbq2
  case taq2 =>
    intro wS hSw
    (try dsimp only at hSw)
    go_simp
    (try (with_reducible rfl))
  (try simp only [List.getElem_toArray, List.getElem_cons_zero, List.getElem_cons_succ, Act.put, List.setIfInBounds_toArray, List.set_cons_zero, List.set_cons_succ])
  refine' wpAnyH_take (i := 2) (v := _) rfl (by kernel_rfl) (by kernel_rfl) (by kernel_rfl) (fun _ _ _ h => h) (Or.inl ⟨by rfl, ?taq3⟩) (by assumption) ?tbq3
  case taq3 =>
    intro wS hSw
    (try dsimp only at hSw)
    go_simp
    (try (with_reducible rfl))
  (try simp only [List.getElem_toArray, List.getElem_cons_zero, List.getElem_cons_succ, Act.put, List.setIfInBounds_toArray, List.set_cons_zero, List.set_cons_succ])
  refine' wpAnyH_take (i := 3) (v := _) rfl (by kernel_rfl) (by kernel_rfl) (by kernel_rfl) (fun _ _ _ h => h) (Or.inl ⟨by rfl, ?taq4⟩) (by assumption) ?tbq4
  case taq4 =>
    intro wS hSw
    (try dsimp only at hSw)
    go_simp
    (try (with_reducible rfl))
  (try simp only [List.getElem_toArray, List.getElem_cons_zero, List.getElem_cons_succ, Act.put, List.setIfInBounds_toArray, List.set_cons_zero, List.set_cons_succ])
  refine' wpAnyH_take (i := 4) (v := _) rfl (by kernel_rfl) (by kernel_rfl) (by kernel_rfl) (fun _ _ _ h => h) (Or.inl ⟨by rfl, ?taq5⟩) (by assumption) ?tbq5
  case taq5 =>
    intro wS hSw
    (try dsimp only at hSw)
    go_simp
    (try (with_reducible rfl))
  (try simp only [List.getElem_toArray, List.getElem_cons_zero, List.getElem_cons_succ, Act.put, List.setIfInBounds_toArray, List.set_cons_zero, List.set_cons_succ])
  refine' wpAnyH_take (i := 8) (v := _) rfl (by kernel_rfl) (by kernel_rfl) (by kernel_rfl) (fun _ _ _ h => h) (Or.inl ⟨by rfl, ?taq6⟩) (by assumption) ?tbq6
  case taq6 =>
    intro wS hSw
    (try dsimp only at hSw)
    go_simp
    (try (with_reducible rfl))
  (try simp only [List.getElem_toArray, List.getElem_cons_zero, List.getElem_cons_succ, Act.put, List.setIfInBounds_toArray, List.set_cons_zero, List.set_cons_succ])
  have HDR : Hid (Reads w3 w3.heap.size (.slice Ad d.length cd) (ints .i64 d)) := Lib.hid (HD.out.off HO4.out (S' := fun _ => True) (fun g hg _ h => by rcases h with h | h; exact hg.1 h; exact hg.2 h) (fun _ _ _ => trivial)).reads
  refine wpAnyH_ready (rs := [5]) (by kernel_rfl) (by simp) ?_
  refine AllReadyH.cons rfl (fun K9 hK9 => ?_) AllReadyH.nil
  (try simp only [List.getElem_toArray, List.getElem_cons_zero, List.getElem_cons_succ])
  go_simp
  refine (size_any d _ w3 _ HDR.out HDB.out).mono ?_
  rintro en w9 ⟨rfl, rfl⟩
  refine hK9.out _ _ (hHeld) (fun hHeld9 => ?_)
  clear hK9 K9
  (try simp only [List.getElem_toArray, List.getElem_cons_zero, List.getElem_cons_succ, Act.put, List.setIfInBounds_toArray, List.set_cons_zero, List.set_cons_succ])
  obtain ⟨s2, hs2⟩ : ∃ s2, rds s1 (sizeI d) = s2 := ⟨_, rfl⟩
  obtain ⟨out, hout⟩ : ∃ out, rdt s1 (sizeI d) = out := ⟨_, rfl⟩
  have HT := Lib.hid (rraw_any w3 p A2 c2 s1.1 s1.2 (sizeI d) HC4.out.rd (by have := HC4.out.len; dsimp only at this; omega))
  rw [show takeOut s1.1 s1.2 (sizeI d) = out from hout, show takeLeft s1.1 s1.2 (sizeI d) = s2.1 by rw [← hs2]; rfl, show takeErr s1.1 s1.2 (sizeI d) = s2.2 by rw [← hs2]; rfl] at HT
  have l2 : s2.1.length ≤ s1.1.length := by rw [← hs2]; exact rds_len _ _
  rw [hs2, hout] at HTD
  have hol : out.length ≤ 8192 := by
    have h1 := sizeI_bound d
    rw [← hout]
    have h2 := takeOut_len s1.1 s1.2 (sizeI d).toNat
    rw [show (((sizeI d).toNat : Nat) : Int) = sizeI d by omega] at h2
    unfold rdt
    omega
  clear hs2 hout HDR
  refine wpAnyH_ready (rs := [6]) (by kernel_rfl) (by simp) ?_
  refine AllReadyH.cons rfl (fun K9 hK9 => ?_) AllReadyH.nil
  (try simp only [List.getElem_toArray, List.getElem_cons_zero, List.getElem_cons_succ])
  go_simp
  refine HT.out.mono ?_
  clear HT
  rintro en w4 ⟨A4, c4, B4, cB4, rfl, hown, hrd, hA, ho⟩
  have HC5 := Lib.hid (HC4.out.read (s' := s2) hrd hA ho l2)
  have HA5 : Hid (SameA A B4) := Lib.hid (HA2.out.trans hA)
  have K55 := Lib.hid (K54.out.off ho (by show ¬ g5 = p; omega))
  have K45 := Lib.hid (K44.out.off ho (by show ¬ w.heap.size = p; omega))
  have HO5 : Hid (Off (fun i => i = p ∨ i = q) w w4) := Lib.hid (HO4.out.trans ho (fun i hi => .inl (.inl hi)))
  have m0 := HC5.out.blk.cell 0
  simp only [List.getElem?_cons_zero] at m0
  have HOW := Lib.hid hown
  clear hrd hA ho hown
  refine hK9.out _ _ (m0) (fun hHeld9 => ?_)
  clear hK9 K9
  (try simp only [List.getElem_toArray, List.getElem_cons_zero, List.getElem_cons_succ, Act.put, List.setIfInBounds_toArray, List.set_cons_zero, List.set_cons_succ])
  refine' wpAnyH_take (i := 7) (v := _) rfl (by kernel_rfl) (by kernel_rfl) (by kernel_rfl) (fun _ _ _ h => h) (Or.inl ⟨by rfl, ?taq7⟩) (by assumption) ?tbq7
  case taq7 =>
    intro wS hSw
    (try dsimp only at hSw)
    go_simp
    (try (with_reducible rfl))
  (try simp only [List.getElem_toArray, List.getElem_cons_zero, List.getElem_cons_succ, Act.put, List.setIfInBounds_toArray, List.set_cons_zero, List.set_cons_succ])
  refine wpAnyH_done (by kernel_rfl) ?_ _
  clear m0 hHeld9 hHeld HC4 K54 K44 HO4 HA2
  have lw4 := K55.out.lt
  go_wp2_with fail
  go_loopw [25] (fun i wr => ∃ (m : Nat) (Au : Option Addr) (cu : Nat), m ≤ out.length ∧ i = .int .i64 m ∧ Hid (Off (fun i => i = g5) w4 wr ∧ Blk wr g5 40 [.slice Ad d.length cd, .int .i64 ex, .slice Au m cu] ∧ wr.ownsRow w4.heap.size 81 1 (.slice Au m cu) m (ints .i8 (i8s (out.take m))))) (fun i _ => out.length - (intOf i).toNat)
  case atStart => exact ⟨0, none, 0, by omega, rfl, Lib.hid ⟨Off.refl _ _, K55.out, World.ownsRow_nil _ _ _ _⟩⟩
  case round =>
    obtain ⟨m, Au, cu, hm, rfl, HR⟩ := hrel
    by_cases hlt : m < out.length
    · have how := HOW.out
      obtain ⟨go, capo, resto, eo, hbo, hlo, _, _, _, _, hblk⟩ := own_blkN how (by omega)
      injection eo with eo1 eo2 eo3
      subst eo1 eo3
      have hko := hblk.off HR.out.1 (by show ¬ go = g5; omega)
      have k7 := hko.cell m
      rw [List.getElem?_append_left (by rw [length_bytesV]; exact hlt), bytesV_at out m hlt] at k7
      have lgo := hko.lt
      have HN7 := Lib.hid (i8s_take out m hlt)
      have i7 : (0 : Int) ≤ (m : Int) := by omega
      have j7 : (m : Int) < (out.length : Int) := by omega
      have hkg := Lib.hid HR.out.2.1
      have lg5 := hkg.out.lt
      have f2 := hkg.out.free 2
      have n0 := hkg.out.cell 0
      have n1 := hkg.out.cell 1
      have n2 := hkg.out.cell 2
      simp only [List.getElem?_cons_zero, List.getElem?_cons_succ] at n0 n1 n2
      obtain ⟨y, hy⟩ : ∃ y, IntKind.i8.wrap (out[m].toNat : Int) = y := ⟨_, rfl⟩
      rw [hy] at HN7
      have hoz := HR.out.1.size
      have hne5 : (Value.slice Au m cu).ownBlock ≠ some g5 := fun e => by have := (HR.out.2.2.lt _ e).1; omega
      have HNE := Lib.hid hne5
      clear how hblk hko hne5 hbo hlo
      go_wp2_with (at_builtin; (try rw [hy]); refine wpList_extend elem_i8k _ rfl (.tmp 30) (.tmp 33) rfl w4.heap.size m _ (ints .i8 (i8s (out.take m))) rfl (HR.out.2.2.alloc _) _ _ [.int .i8 y] rfl (Reads.one_ wr _ _) (by simp [Value.oneCell']) (by simp only [List.length_cons, List.length_nil, maxLen]; omega) (by simp only [List.length_cons, List.length_nil]; omega) (by simp only [World.size_alloc]; omega) ?_; intro A9 c9 w9 hown9 hg9 hf9; simp only [List.length_cons, List.length_nil, Nat.zero_add] at hown9 ⊢; have hk9 := (hkg.out.alloc (.cells #[.int .i8 y] 81)).grown hg9 (fun e => HNE.out e.symm); have q9 := hk9.cell 2; have f9 := hk9.free 2; have l9 := hk9.lt; simp only [List.getElem?_cons_zero, List.getElem?_cons_succ] at q9)
      have e9 : ints .i8 (i8s (out.take m)) ++ [.int .i8 y] = ints .i8 (i8s (out.take (m + 1))) := by rw [HN7.out, ← ints_append]; rfl
      rw [e9] at hown9
      have hof : Off (fun i => i = g5) w4 (w9.setCell ⟨g5, 2, none⟩ (.slice A9 (m + 1) c9)) := ((HR.out.1.alloc (.cells #[.int .i8 y] 81)).grown hg9 (fun k hk => .inr (by have := (HR.out.2.2.lt k hk).1; omega))).setCell (p := ⟨g5, 2, none⟩) (.inl rfl) _
      have hk2 := hk9.put 2 (.slice A9 (m + 1) c9)
      simp only [List.set_cons_succ, List.set_cons_zero] at hk2
      have ow9 := own_off hown9 ((Off.refl (fun i => i = g5) w9).setCell (p := ⟨g5, 2, none⟩) (.inl rfl) (.slice A9 (m + 1) c9)) (fun k hk => by have := (hown9.lt k hk).1; omega)
      clear q9 f9 l9 n0 n1 n2 f2 k7 hk9 hown9 hg9 hf9 e9 hy
      have HR2 := Lib.hid (And.intro hof (And.intro hk2 ow9))
      clear hof hk2 ow9
      go_wp2
      go_roundw
      case rel => exact ⟨m + 1, A9, c9, by omega, by go_num, HR2⟩
      case measure => simp [intOf]; omega
    · obtain rfl : m = out.length := by omega
      rw [List.take_length] at HR
      clear hlt
      have hkg := Lib.hid HR.out.2.1
      have lg5 := hkg.out.lt
      have n0 := hkg.out.cell 0
      have n1 := hkg.out.cell 1
      have n2 := hkg.out.cell 2
      simp only [List.getElem?_cons_zero, List.getElem?_cons_succ] at n0 n1 n2
      have hoz := HR.out.1.size
      have HCr := Lib.hid (HC5.out.offA HR.out.1 (by show ¬ q = g5; omega) (by show ¬ p = g5; omega) (fun h0 a ha => by
        obtain ⟨b, hb, e⟩ := HA5.out a ha
        have h1 := HALT.out (by dsimp only at h0; omega) b hb
        show ¬ a.block = g5
        omega))
      have K4r := Lib.hid (K45.out.off HR.out.1 (by show ¬ w.heap.size = g5; omega))
      have HOr : Hid (Off (fun i => i = p ∨ i = q) w wr) := Lib.hid (HO5.out.trans HR.out.1 (fun i hi => .inr (by omega)))
      have HDR := Lib.hid (HD.out.off HOr.out (S' := fun _ => True) (fun g hg _ h => by rcases h with h | h; exact hg.1 h; exact hg.2 h) (fun _ _ _ => trivial)).reads
      have HUR := Lib.hid (Reads.of_own HR.out.2.2)
      have HTM := Lib.hid (tmay_any d ex (i8s out) _ _ wr wr.heap.size (Nat.le_refl _) ⟨HDR.out, HUR.out, HDB, Lib.hid (i8s_in out), by have := HEXB.out; omega, by have := HEXB.out; omega⟩)
      have HOWr := Lib.hid HR.out.2.2
      have HKg := Lib.hid HR.out.2.1
      clear HR HC5 K45 HO5 HDR HUR K55
      obtain ⟨ok, hok⟩ : ∃ ok, mayB d ex (i8s out) = ok := ⟨_, rfl⟩
      rw [hok] at HTM HTD
      clear hok
      go_wp2_with fail
      refine HTM.out.mono ?_
      rintro en w5 ⟨rfl, hb5⟩
      have HC6 := Lib.hid (HCr.out.below hb5)
      have K46 := Lib.hid (K4r.out.below hb5 K4r.out.lt)
      have HO6 : Hid (Off (fun i => i = p ∨ i = q) w w5) := Lib.hid (HOr.out.trans (Off.of_below (S := fun i => wr.heap.size ≤ i) hb5 (fun i hi => .inl hi)) (fun i hi => .inr (by have := HOr.out.size; omega)))
      have HOW6 := Lib.hid (own_off HOWr.out (Off.of_below hb5 (S := fun i => wr.heap.size ≤ i) (fun i hi => .inl hi)) (fun k hk => by have := (HOWr.out.lt k hk).2; omega))
      have KG6 := Lib.hid (HKg.out.below hb5 HKg.out.lt)
      clear hb5 HTM HCr K4r HOr HOWr HKg n0 n1 n2 hkg
      dsimp only
      go_wp2_with fail
      obtain ⟨z', hz'⟩ : ∃ z', chk ⟨z.e, s2⟩ ok = z' := ⟨_, rfl⟩
      rw [hz'] at HTD
      have HZS : Hid (z'.s = s2) := Lib.hid (by rw [← hz']; rfl)
      refine (check_any w5 q p B4 cB4 ⟨z.e, s2⟩ ok HC6.out z' hz').mono ?_
      rintro en w6 ⟨rfl, hc6, ho6⟩
      have HC7 := Lib.hid hc6
      have K47 := Lib.hid (K46.out.off ho6 (by show ¬ w.heap.size = q; omega))
      have HO7 : Hid (Off (fun i => i = p ∨ i = q) w w6) := Lib.hid (HO6.out.trans ho6 (fun i hi => .inl (.inr hi)))
      have HOW7 := Lib.hid (own_off HOW6.out ho6 (fun k hk => by have := (HOW6.out.lt k hk).1; show ¬ k = q; omega))
      have KG7 := Lib.hid (KG6.out.off ho6 (by show ¬ g5 = q; omega))
      clear hz' hc6 ho6 HC6 K46 HO6 HOW6 KG6
      have l7 := K47.out.lt
      have lg7 := KG7.out.lt
      have f0 := K47.out.free 0
      have f1 := K47.out.free 1
      have f2 := K47.out.free 2
      have n0 := KG7.out.cell 0
      have n1 := KG7.out.cell 1
      have n2 := KG7.out.cell 2
      simp only [List.getElem?_cons_zero, List.getElem?_cons_succ] at n0 n1 n2
      have m0 := K47.out.cell 0
      have m1 := K47.out.cell 1
      have m2 := K47.out.cell 2
      simp only [List.getElem?_cons_zero, List.getElem?_cons_succ] at m0 m1 m2
      go_wp2_with fail
      have hk3 := Lib.hid (((K47.out.put 0 (.slice Ad d.length cd)).put 1 (.int .i64 ex)).put 2 (.slice Au out.length cu))
      have hof : Off (fun i => i = w.heap.size) w6 (((w6.setCell ⟨w.heap.size, 0, none⟩ (.slice Ad d.length cd)).setCell ⟨w.heap.size, 1, none⟩ (.int .i64 ex)).setCell ⟨w.heap.size, 2, none⟩ (.slice Au out.length cu)) := (((Off.refl (fun i => i = w.heap.size) w6).setCell (p := ⟨w.heap.size, 0, none⟩) (.inl rfl) _).setCell (p := ⟨w.heap.size, 1, none⟩) (.inl rfl) _).setCell (p := ⟨w.heap.size, 2, none⟩) (.inl rfl) _
      have HOF := Lib.hid hof
      clear hof
      generalize (((w6.setCell ⟨w.heap.size, 0, none⟩ (.slice Ad d.length cd)).setCell ⟨w.heap.size, 1, none⟩ (.int .i64 ex)).setCell ⟨w.heap.size, 2, none⟩ (.slice Au out.length cu)) = w7 at hk3 HOF ⊢
      have p0 := hk3.out.cell 0
      have p1 := hk3.out.cell 1
      have p2 := hk3.out.cell 2
      simp only [List.set_cons_succ, List.set_cons_zero, List.getElem?_cons_zero, List.getElem?_cons_succ] at p0 p1 p2
      refine bodyPost_ret (v := .agg #[.slice Ad d.length cd, .int .i64 ex, .slice Au out.length cu]) ?_ rfl ?_
      · simp [results, Try.results58, asAddr, Result.andThen, p0, p1, p2, go_sem]
      · rw [HTD.out]
        refine ⟨B4, cB4, .slice Au out.length cu, rfl, ?_, HC7.out.offA HOF.out (by show ¬ q = w.heap.size; omega) (by show ¬ p = w.heap.size; omega) (fun h0 a ha => ?_), HA5.out, HO7.out.trans HOF.out (fun i hi => .inr (by omega))⟩
        · have h1 := own_off HOW7.out HOF.out (fun k hk => by have := (HOW7.out.lt k hk).1; show ¬ k = w.heap.size; omega)
          have e8 : (i8s out).length = out.length := by simp [i8s]
          dsimp only
          rw [e8]
          exact own_lower h1 (by omega)
        · obtain ⟨b, hb, e⟩ := HA5.out a ha
          have h1 := HALT.out (by rw [HZS.out] at h0; omega) b hb
          show ¬ a.block = w.heap.size
          omega
end Go.Proofs.Ytcjpibdgnjncmaa
