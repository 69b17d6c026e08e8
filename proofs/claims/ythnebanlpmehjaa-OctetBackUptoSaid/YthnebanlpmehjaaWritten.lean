/- Contracts of the reference's U16, U32, U64, and of pedagoguelaw3.written. -/
import Derived.Test.YthnebanlpmehjaaWalkStays
import Derived.Test.YthnebanlpmehjaaOpenB
namespace Go.Proofs.Ythnebanlpmehjaa
open Go.RowKit
set_option linter.unusedVariables false

theorem own_bel3 {w w' : World} {base n : Nat} {e : TypeId} {sz : Nat} {v : Value} {xs : List Value} (h : w.ownsRow base e sz v n xs) (hb : Below w.heap.size w w') : w'.ownsRow base e sz v n xs :=
  own_off h (Off.of_below (S := fun _ => False) hb (fun i h => .inr h)) (fun _ _ h => h)

theorem u8_lit (x : Int) (m : Nat) (h : IntKind.u8.wrap x = ((m % 256 : Nat) : Int)) : Value.int .u8 (IntKind.u8.wrap x) = .int .u8 ((UInt8.ofNat (m % 256)).toNat : Int) := by
  rw [h]
  simp
/-- a literal of these bytes is a new slice of them -/
theorem lit_new {w : World} {cs : List Value} {bs : List UInt8} (h : cs = bytesV bs) (hl : bs.length ≤ 8) (n : Nat) (hn : bs.length = n) :
    NewBytes w bs (.returned (.slice (some ⟨w.heap.size, 0, none⟩) n n)) (w.alloc (.cells cs.toArray 5)) := by
  subst h hn
  refine ⟨_, _, rfl, ?_, (Below.refl _ _).alloc (Nat.le_refl _) _⟩
  exact (Blk.fresh w 5 (bytesV bs)).ownAll (n := bs.length) (Nat.le_refl _) (by unfold maxLen; omega) (length_bytesV _)
theorem beB_two (m : Nat) : beB m 2 = [UInt8.ofNat (m / 256 % 256), UInt8.ofNat (m % 256)] := by
  simp [beB, List.range_succ]
theorem beB_four (m : Nat) : beB m 4 = [UInt8.ofNat (m / 16777216 % 256), UInt8.ofNat (m / 65536 % 256), UInt8.ofNat (m / 256 % 256), UInt8.ofNat (m % 256)] := by
  simp [beB, List.range_succ]
theorem ru16b_any (x : Int) (m : Nat) (hx : IntKind.u64.wrap x = (m : Int)) (h0 : -9223372036854775808 ≤ x) (h1 : x ≤ 9223372036854775807) (w : World) :
    Calls Try.prog 33 #[.int .i64 x] w (NewBytes w (beB m 2)) := by
  have hx' := hx
  rw [IntKind.wrap_u64] at hx'
  have e1 := u8_lit (x / 256) (m / 256) (by rw [IntKind.wrap_u8]; omega)
  have e2 := u8_lit x m (by rw [IntKind.wrap_u8]; omega)
  have hb : [Value.int .u8 (IntKind.u8.wrap (x / 256)), .int .u8 (IntKind.u8.wrap x)] = bytesV (beB m 2) := by rw [e1, e2, beB_two]; rfl
  have HB := Lib.hid hb
  clear hx hx' e1 e2 hb
  go_enter Try.func33, Try.ntmps33
  go_wp2
  go_ret
  exact lit_new HB.out (by rw [length_beB]; omega) 2 (length_beB _ _)
theorem ru32b_any (m : Nat) (hm : m < 4294967296) (w : World) :
    Calls Try.prog 34 #[.int .u32 (m : Int)] w (NewBytes w (beB m 4)) := by
  have e1 : Value.int .u8 ((m : Int) / 16777216) = .int .u8 ((UInt8.ofNat (m / 16777216 % 256)).toNat : Int) := by congr 1; simp; omega
  have e2 : Value.int .u8 ((m : Int) / 65536 % 256) = .int .u8 ((UInt8.ofNat (m / 65536 % 256)).toNat : Int) := by congr 1; simp
  have e3 : Value.int .u8 ((m : Int) / 256 % 256) = .int .u8 ((UInt8.ofNat (m / 256 % 256)).toNat : Int) := by congr 1; simp
  have e4 : Value.int .u8 ((m : Int) % 256) = .int .u8 ((UInt8.ofNat (m % 256)).toNat : Int) := by congr 1; simp
  have hb : [Value.int .u8 ((m : Int) / 16777216), .int .u8 ((m : Int) / 65536 % 256), .int .u8 ((m : Int) / 256 % 256), .int .u8 ((m : Int) % 256)] = bytesV (beB m 4) := by rw [e1, e2, e3, e4, beB_four]; rfl
  have HB := Lib.hid hb
  clear e1 e2 e3 e4 hb
  go_enter Try.func34, Try.ntmps34
  go_wp2
  go_ret
  exact lit_new HB.out (by rw [length_beB]; omega) 4 (length_beB _ _)
theorem ru64b_any (m : Nat) (hm : m < 18446744073709551616) (w : World) :
    Calls Try.prog 35 #[.int .u64 (m : Int)] w (NewBytes w (beB m 8)) := by
  have e0 : beB (m / 4294967296) 4 ++ beB (m % 4294967296) 4 = beB m 8 := by
    rw [show (4294967296 : Nat) = 256 ^ 4 from rfl, beB_mod m 4 4 (Nat.le_refl _)]
    exact (beB_add m 4 4).symm
  have H1 : Hid (∀ W : World, Calls Try.prog 34 #[.int .u32 ((m : Int) / 4294967296)] W (NewBytes W (beB (m / 4294967296) 4))) := Lib.hid (fun W => by rw [show ((m : Int) / 4294967296) = ((m / 4294967296 : Nat) : Int) from by simp]; exact ru32b_any _ (by omega) W)
  have H2 : Hid (∀ W : World, Calls Try.prog 34 #[.int .u32 ((m : Int) % 4294967296)] W (NewBytes W (beB (m % 4294967296) 4))) := Lib.hid (fun W => by rw [show ((m : Int) % 4294967296) = ((m % 4294967296 : Nat) : Int) from by simp]; exact ru32b_any _ (by omega) W)
  have E0 := Lib.hid e0
  have l1 := length_beB (m / 4294967296) 4
  have l2 := length_beB (m % 4294967296) 4
  generalize beB (m / 4294967296) 4 = xs at *
  generalize beB (m % 4294967296) 4 = ys at *
  clear e0
  have L1 := Lib.hid l1
  have L2 := Lib.hid l2
  clear l1 l2
  go_enter Try.func35, Try.ntmps35
  go_wp2_with fail
  refine (H1.out _).mono ?_
  rintro en w1 ⟨A1, c1, rfl, hown1, hb1⟩
  go_wp2_with fail
  refine (H2.out _).mono ?_
  rintro en w2 ⟨A2, c2, rfl, hown2, hb2⟩
  have hown1b := own_bel3 hown1 hb2
  have hs1 := hb1.size
  have hs2 := hb2.size
  go_wp2_with (at_builtin; refine wpList_extend elem_byte _ rfl (.tmp 6) (.tmp 9) rfl w.heap.size xs.length _ (bytesV xs) rfl hown1b w2.heap.size _ (bytesV ys) rfl (Reads.of_own hown2) (bytesV_one _) (by rw [length_bytesV, L1.out, L2.out]; unfold maxLen; omega) (by rw [length_bytesV, L1.out, L2.out]; omega) (by omega) ?_; intro A3 c3 w3 hown3 hgrow3 hfr3)
  go_ret
  refine ⟨A3, c3, ?_, ?_, (hb1.trans (hb2.mono (by omega))).grown hgrow3 (by omega) (fun k hk => (hown1.lt k hk).1)⟩
  · show Ending.returned (.slice A3 (xs.length + (bytesV ys).length) c3) = _
    rw [← E0.out, List.length_append, length_bytesV]
  · rw [← E0.out, ← bytesV_append, List.length_append]
    rw [length_bytesV] at hown3
    exact hown3

/-- a call's bytes -/
def encC (c : CallV) : List UInt8 := if c.dd = 0 then beB c.n 1 else if c.dd = 1 then beB c.n 2 else if c.dd = 2 then beB c.n 4 else if c.dd = 3 then beB c.n 8 else c.raw
def encAll (l : List CallV) : List UInt8 := l.flatMap encC
theorem encC_len (c : CallV) : (encC c).length ≤ 8 + c.raw.length := by
  unfold encC
  repeat' split
  all_goals (try rw [length_beB]); omega
theorem encAll_len : ∀ l : List CallV, (encAll l).length ≤ 8 * l.length + (l.map (fun c => c.raw.length)).sum
  | [] => by simp [encAll]
  | c :: l => by
    have h1 := encC_len c
    have h2 := encAll_len l
    simp only [encAll, List.flatMap_cons, List.length_append, List.length_cons, List.map_cons, List.sum_cons] at h2 ⊢
    omega
theorem sum_take_le : ∀ (l : List Nat) (k : Nat), (l.take k).sum ≤ l.sum
  | [], k => by simp
  | x :: l, 0 => by simp
  | x :: l, k + 1 => by
    have := sum_take_le l k
    simp only [List.take_succ_cons, List.sum_cons]
    omega
theorem encTake_len (l : List CallV) (k : Nat) : (encAll (l.take k)).length ≤ 8 * k + (l.map (fun c => c.raw.length)).sum := by
  have h1 := encAll_len (l.take k)
  have h2 := sum_take_le (l.map (fun c => c.raw.length)) k
  rw [← List.map_take] at h2
  have h3 := List.length_take_le k l
  omega
theorem encTake_next {l : List CallV} {k : Nat} {x : CallV} (h : l[k]? = some x) : encAll (l.take (k + 1)) = encAll (l.take k) ++ encC x := by
  rw [List.take_add_one, h]
  simp [encAll]
theorem sum_mem : ∀ (l : List Nat) (x : Nat), x ∈ l → x ≤ l.sum
  | [], x, h => by cases h
  | y :: l, x, h => by
    simp only [List.sum_cons]
    rcases List.mem_cons.1 h with rfl | h
    · omega
    · have := sum_mem l x h; omega
theorem raw_le {l : List CallV} {k : Nat} {x : CallV} (h : l[k]? = some x) : x.raw.length ≤ (l.map (fun c => c.raw.length)).sum :=
  sum_mem _ _ (List.mem_map.2 ⟨x, List.mem_of_getElem? h, rfl⟩)

/-- a writer with xs, and a row of its own with ys -/
structure WB (w : World) (p : Nat) (v u : Value) (xs ys : List UInt8) (wr : World) : Prop where
  a : Wr wr w.heap.size p v xs
  b : wr.ownsRow w.heap.size 5 1 u ys.length (bytesV ys)
  lp : w.heap.size ≤ p
  s1 : u.ownBlock ≠ some p
  s2 : ∀ k, v.ownBlock = some k → u.ownBlock ≠ some k
  bel : Below w.heap.size w wr
section
variable {w wr w5 : World} {p : Nat} {v u : Value} {xs ys : List UInt8}
theorem WB.size (h : WB w p v u xs ys wr) : w.heap.size ≤ wr.heap.size := h.bel.size
theorem WB.below (h : WB w p v u xs ys wr) (hb : Below wr.heap.size wr w5) : WB w p v u xs ys w5 :=
  ⟨h.a.below hb, own_off h.b (Off.of_below (S := fun i => wr.heap.size ≤ i) hb (fun i hi => .inl hi)) (fun k hk => by have := (h.b.lt k hk).2; omega), h.lp, h.s1, h.s2, h.bel.trans (hb.mono h.size)⟩
theorem WB.putA {v' : Value} {xs' : List UInt8} (h : WB w p v u xs ys wr) (hw : Wr w5 w.heap.size p v' xs') (hf : Fresh wr v v') (ho : Off (WrS p v) wr w5) : WB w p v' u xs' ys w5 := by
  refine ⟨hw, own_off h.b ho (fun k hk hS => ?_), h.lp, h.s1, fun k hk he => ?_, h.bel.trans (ho.below h.size (fun i hi => ?_))⟩
  · rcases hS with rfl | hS
    · exact h.s1 hk
    · exact h.s2 k hS hk
  · rcases hf.off hk with h1 | h1
    · exact h.s2 k h1 he
    · have := (h.b.lt k he).2; omega
  · rcases hi with rfl | hi
    · exact h.lp
    · exact (h.a.own.lt i hi).1
theorem WB.putB {u' : Value} {ys' : List UInt8} (h : WB w p v u xs ys wr) (hg : wr.grownBy w5 u.ownBlock) (ho : w5.ownsRow w.heap.size 5 1 u' ys'.length (bytesV ys')) (hf : Fresh wr u u') : WB w p v u' xs ys' w5 := by
  have hoff : Off (fun i => u.ownBlock = some i) wr w5 := (Off.refl _ _).grown hg (fun k hk => .inl hk)
  refine ⟨h.a.off hoff h.s1 (fun k hk => h.s2 k hk), ho, h.lp, fun he => ?_, fun k hk he => ?_, h.bel.trans (hoff.below h.size (fun i hi => (h.b.lt i hi).1))⟩
  · rcases hf.off he with h1 | h1
    · exact h.s1 h1
    · have := h.a.blk.lt; omega
  · rcases hf.off he with h1 | h1
    · exact h.s2 k hk h1
    · have := (h.a.own.lt k hk).2; omega
/-- what was boxed behind it stays off a writer's step -/
theorem WB.box {o : Obj} (h : WB w p v u xs ys (wr.alloc o)) (hz : w.heap.size ≤ wr.heap.size) (hS : WrS p v wr.heap.size) (hp : p < wr.heap.size) (hv : ∀ k, v.ownBlock = some k → k < wr.heap.size) : False := by
  rcases hS with hS | hS
  · omega
  · have := hv _ hS; omega
theorem WB.fresh (w : World) : WB w w.heap.size (.slice none 0 0) (.slice none 0 0) [] [] (w.alloc (.cells #[.slice none 0 0] 26)) :=
  ⟨Wr.fresh w w.heap.size, World.ownsRow_nil _ _ _ _, Nat.le_refl _, by simp [Value.ownBlock], by simp [Value.ownBlock], (Below.refl _ _).alloc (Nat.le_refl _) _⟩
end
/-- the same bytes twice -/
def TwoBytes (w : World) (bs : List UInt8) (en : Ending) (w' : World) : Prop :=
  ∃ A c A' c', en = .returned (.tuple #[.slice A bs.length c, .slice A' bs.length c']) ∧ Reads w' w'.heap.size (.slice A bs.length c) (bytesV bs) ∧ Reads w' w'.heap.size (.slice A' bs.length c') (bytesV bs) ∧ Below w.heap.size w w'
theorem wrap_back (n : Nat) (hn : n < 18446744073709551616) : IntKind.u64.wrap (wrap64 (n : Int)) = (n : Int) := by
  unfold wrap64
  rw [IntKind.wrap_u64]
  omega
theorem i64_bd (n : Int) : -9223372036854775808 ≤ wrap64 n ∧ wrap64 n ≤ 9223372036854775807 := by
  unfold wrap64
  omega

set_option maxHeartbeats 3200000 in
set_option maxRecDepth 100000 in
theorem written_any (v0 : Value) (l : List CallV) (w : World) (o0 : CallsOfB w v0 l) :
    Calls Try.prog 15 #[v0] w (TwoBytes w (encAll (l.take 60))) := by
  obtain ⟨o1, hsum⟩ := o0
  obtain ⟨A1, c1, rfl⟩ := o1.form
  have H1 := Lib.hid o1
  have hlen1 := o1.len
  have HS := Lib.hid hsum
  have HF := Lib.hid (WB.fresh w)
  clear o1 hsum
  go_enter Try.func15, Try.ntmps15
  go_wp2_with fail
  go_loopw [12, 5] (fun i u wr => ∃ (k : Nat) (v : Value), k ≤ l.length ∧ k ≤ 60 ∧ i = .int .i64 k ∧ WB w w.heap.size v u (encAll (l.take k)) (encAll (l.take k)) wr) (fun i _ _ => l.length - (intOf i).toNat)
  case atStart => exact ⟨0, _, by omega, by omega, rfl, HF.out⟩
  case round =>
    clear HF
    obtain ⟨k, v, hk, hk60, rfl, hwb⟩ := hrel
    by_cases hlt : k < l.length
    · have hlen := encTake_len l k
      have hbel := hwb.bel
      obtain ⟨g, o, c6, x, e1, hxk, hok, hc0, hc1, hc2, hg⟩ := H1.out.at_ hbel hlt
      injection e1 with e1 _ e3
      subst e1 e3
      have hnx := encTake_next hxk
      have hrw := raw_le hxk
      have hsm := HS.out
      obtain ⟨dd, n, rv, raw⟩ := x
      obtain ⟨hd0, hd1, hn, hraw, hrl⟩ := hok
      dsimp only at hc0 hc1 hc2 hd0 hd1 hn hraw hrw
      obtain ⟨A7, c7, rfl, _, _⟩ := hraw.form
      simp only [length_bytesV] at hraw hc2 hnx ⊢
      have hal : Below wr.heap.size wr (wr.alloc (.cells #[.int .i64 dd, .int .u64 n, .slice A7 raw.length c7] 46)) := (Below.refl _ wr).alloc (Nat.le_refl _) _
      have HW := Lib.hid (hwb.below hal)
      have HK := Lib.hid (Blk.fresh wr 46 [.int .i64 dd, .int .u64 n, .slice A7 raw.length c7])
      have HR := Lib.hid (hraw.below (hbel.trans (hal.mono hbel.size)))
      obtain ⟨Au, cu, rfl⟩ := own_form hwb.b
      have HNX := Lib.hid hnx
      have hzz := hbel.size
      have HPB : Hid (w.heap.size < wr.heap.size ∧ ∀ k, v.ownBlock = some k → k < wr.heap.size) := Lib.hid ⟨hwb.a.blk.lt, fun k hk => (hwb.a.own.lt k hk).2⟩
      have HRX := Lib.hid hraw
      have hi64 := i64_bd (n : Int)
      have HWB := Lib.hid (wrap_back n hn)
      clear hwb hbel hal hraw hxk hnx
      by_cases h60 : 60 ≤ k
      · obtain rfl : k = 60 := by omega
        go_wp2_with fail
        refine (bytes_any _ _ _ _ _ HW.out.a (by omega)).mono ?_
        rintro en w5 ⟨A5, c5, rfl, hown5, hb5⟩
        have HW5 := Lib.hid (HW.out.below hb5)
        have HO5 := Lib.hid hown5
        clear hown5 hb5
        go_wp2
        refine bodyPost_ret (v := .tuple #[.slice A5 (encAll (l.take 60)).length c5, .slice Au (encAll (l.take 60)).length cu]) (by simp [results, Try.results15, go_sem]) rfl ?_
        exact ⟨_, _, _, _, rfl, Reads.of_own HO5.out, Reads.of_own HW5.out.b, HW5.out.bel⟩
      · have t60 : decide (60 ≤ (k : Int)) = false := by simp; omega
        generalize hbs : encAll (l.take k) = bs at HW HNX hlen
        clear hbs
        by_cases hd : dd = 0
        · subst hd
          have hen : encC ⟨0, n, .slice A7 raw.length c7, raw⟩ = beB n 1 := by unfold encC; simp only []; simp
          rw [hen] at HNX
          clear hen
          go_wp2_with fail
          refine (u8_any _ _ _ _ _ HW.out.a HW.out.size _ n HWB.out (by omega)).mono ?_
          rintro en w5 ⟨rfl, v5, hw5, hf5, ho5⟩
          have HW5 := Lib.hid (HW.out.putA hw5 hf5 ho5)
          have kc : Blk w5 wr.heap.size 46 [.int .i64 0, .int .u64 n, .slice A7 raw.length c7] := HK.out.off ho5 (fun hS => HW.out.box hzz hS HPB.out.1 HPB.out.2)
          have kc1 : w5.cell? ⟨wr.heap.size, 1, none⟩ = some (.int .u64 n) := kc.cell 1
          have kc2 : w5.cell? ⟨wr.heap.size, 2, none⟩ = some (.slice A7 raw.length c7) := kc.cell 2
          clear hw5 hf5 ho5 kc
          go_wp2_with (at_builtin; refine wpList_extend elem_byte _ rfl (.tmp 36) (.tmp 40) rfl w.heap.size bs.length _ (bytesV bs) rfl ((HW5.out.below ((Below.refl _ w5).alloc (Nat.le_refl _) _)).b) _ _ [_] rfl (Reads.one_ w5 _ _) (by simp [Value.oneCell']) (by simp only [List.length_cons, List.length_nil, maxLen]; omega) (by simp only [List.length_cons, List.length_nil]; omega) (by have := HW5.out.size; simp; omega) ?_; intro A9 c9 w9 hown9 hgrow9 hfr9)
          have HWL := HW5.out.below ((Below.refl _ w5).alloc (Nat.le_refl _) (.cells #[.int .u8 ((n : Int) % 256)] 5))
          have e9 : bytesV bs ++ [Value.int .u8 ((n : Int) % 256)] = bytesV (bs ++ beB n 1) := by
            rw [← bytesV_append]
            simp [beB, bytesV, List.range_succ]
          rw [e9] at hown9
          have hl9 : (bs ++ beB n 1).length = bs.length + 1 := by rw [List.length_append, length_beB]
          have hfin := HWL.putB hgrow9 (ys' := bs ++ beB n 1) (by rw [hl9]; exact hown9) hfr9
          clear hown9 hgrow9 hfr9
          rw [← HNX.out] at hfin
          go_roundw
          case rel => exact ⟨k + 1, _, by omega, by omega, by go_num, hfin⟩
          case measure => simp [intOf]; omega
        · have t2 : (dd == 0) = false := by simpa using hd
          clear hd
          by_cases hd : dd = 1
          · subst hd
            have hen : encC ⟨1, n, .slice A7 raw.length c7, raw⟩ = beB n 2 := by unfold encC; simp only []; simp
            rw [hen] at HNX
            clear hen
            go_wp2_with fail
            refine (u16_any _ _ _ _ _ HW.out.a HW.out.size _ n HWB.out (by omega)).mono ?_
            rintro en w5 ⟨rfl, v5, hw5, hf5, ho5⟩
            have HW5 := Lib.hid (HW.out.putA hw5 hf5 ho5)
            have kc : Blk w5 wr.heap.size 46 [.int .i64 1, .int .u64 n, .slice A7 raw.length c7] := HK.out.off ho5 (fun hS => HW.out.box hzz hS HPB.out.1 HPB.out.2)
            have kc1 : w5.cell? ⟨wr.heap.size, 1, none⟩ = some (.int .u64 n) := kc.cell 1
            have kc2 : w5.cell? ⟨wr.heap.size, 2, none⟩ = some (.slice A7 raw.length c7) := kc.cell 2
            clear hw5 hf5 ho5 kc
            go_wp2_with fail
            refine (ru16b_any _ n HWB.out hi64.1 hi64.2 _).mono ?_
            rintro en w6 ⟨A6, c6, rfl, hown6, hb6⟩
            have HWL := HW5.out.below hb6
            have hl6 := length_beB n 2
            generalize beB n 2 = ns at HNX HW5 hown6 HWL hl6 ⊢
            have HL6 := Lib.hid hl6
            clear hl6
            go_wp2_with (at_builtin; refine wpList_extend elem_byte _ rfl (.tmp 49) (.tmp 53) rfl w.heap.size bs.length _ (bytesV bs) rfl HWL.b w6.heap.size _ (bytesV ns) rfl (Reads.of_own hown6) (bytesV_one _) (by rw [length_bytesV, HL6.out]; unfold maxLen; omega) (by rw [length_bytesV, HL6.out]; omega) HWL.size ?_; intro A9 c9 w9 hown9 hgrow9 hfr9)
            rw [length_bytesV, bytesV_append] at hown9
            rw [length_bytesV] at hfr9
            have hfin := HWL.putB hgrow9 (ys' := bs ++ ns) (by rw [List.length_append]; exact hown9) hfr9
            clear hown9 hgrow9 hfr9
            rw [← HNX.out] at hfin
            rw [length_bytesV]
            go_roundw
            case rel => exact ⟨k + 1, _, by omega, by omega, by go_num, hfin⟩
            case measure => simp [intOf]; omega
          · have t3 : (dd == 1) = false := by simpa using hd
            clear hd
            by_cases hd : dd = 2
            · subst hd
              have hen : encC ⟨2, n, .slice A7 raw.length c7, raw⟩ = beB n 4 := by unfold encC; simp only []; simp
              rw [hen] at HNX
              clear hen
              go_wp2_with fail
              refine (u32_any _ _ _ _ _ HW.out.a HW.out.size _ (n % 4294967296) (by simp) (by omega) (by omega)).mono ?_
              rintro en w5 ⟨rfl, v5, hw5, hf5, ho5⟩
              rw [show beB (n % 4294967296) 4 = beB n 4 from beB_mod n 4 4 (Nat.le_refl _)] at hw5
              have HW5 := Lib.hid (HW.out.putA hw5 hf5 ho5)
              have kc : Blk w5 wr.heap.size 46 [.int .i64 2, .int .u64 n, .slice A7 raw.length c7] := HK.out.off ho5 (fun hS => HW.out.box hzz hS HPB.out.1 HPB.out.2)
              have kc1 : w5.cell? ⟨wr.heap.size, 1, none⟩ = some (.int .u64 n) := kc.cell 1
              have kc2 : w5.cell? ⟨wr.heap.size, 2, none⟩ = some (.slice A7 raw.length c7) := kc.cell 2
              clear hw5 hf5 ho5 kc
              go_wp2_with fail
              rw [show (n : Int) % 4294967296 = ((n % 4294967296 : Nat) : Int) from by simp]
              refine (ru32b_any (n % 4294967296) (by omega) _).mono ?_
              rintro en w6 ⟨A6, c6, rfl, hown6, hb6⟩
              rw [show beB (n % 4294967296) 4 = beB n 4 from beB_mod n 4 4 (Nat.le_refl _)] at hown6 ⊢
              have HWL := HW5.out.below hb6
              have hl6 := length_beB n 4
              generalize beB n 4 = ns at HNX HW5 hown6 HWL hl6 ⊢
              have HL6 := Lib.hid hl6
              clear hl6
              go_wp2_with (at_builtin; refine wpList_extend elem_byte _ rfl (.tmp 62) (.tmp 66) rfl w.heap.size bs.length _ (bytesV bs) rfl HWL.b w6.heap.size _ (bytesV ns) rfl (Reads.of_own hown6) (bytesV_one _) (by rw [length_bytesV, HL6.out]; unfold maxLen; omega) (by rw [length_bytesV, HL6.out]; omega) HWL.size ?_; intro A9 c9 w9 hown9 hgrow9 hfr9)
              rw [length_bytesV, bytesV_append] at hown9
              rw [length_bytesV] at hfr9
              have hfin := HWL.putB hgrow9 (ys' := bs ++ ns) (by rw [List.length_append]; exact hown9) hfr9
              clear hown9 hgrow9 hfr9
              rw [← HNX.out] at hfin
              rw [length_bytesV]
              go_roundw
              case rel => exact ⟨k + 1, _, by omega, by omega, by go_num, hfin⟩
              case measure => simp [intOf]; omega
            · have t4 : (dd == 2) = false := by simpa using hd
              clear hd
              by_cases hd : dd = 3
              · subst hd
                have hen : encC ⟨3, n, .slice A7 raw.length c7, raw⟩ = beB n 8 := by unfold encC; simp only []; simp
                rw [hen] at HNX
                clear hen
                go_wp2_with fail
                refine (u64_any _ _ _ _ _ HW.out.a HW.out.size _ n rfl hn (by omega)).mono ?_
                rintro en w5 ⟨rfl, v5, hw5, hf5, ho5⟩
                have HW5 := Lib.hid (HW.out.putA hw5 hf5 ho5)
                have kc : Blk w5 wr.heap.size 46 [.int .i64 3, .int .u64 n, .slice A7 raw.length c7] := HK.out.off ho5 (fun hS => HW.out.box hzz hS HPB.out.1 HPB.out.2)
                have kc1 : w5.cell? ⟨wr.heap.size, 1, none⟩ = some (.int .u64 n) := kc.cell 1
                have kc2 : w5.cell? ⟨wr.heap.size, 2, none⟩ = some (.slice A7 raw.length c7) := kc.cell 2
                clear hw5 hf5 ho5 kc
                go_wp2_with fail
                refine (ru64b_any n hn _).mono ?_
                rintro en w6 ⟨A6, c6, rfl, hown6, hb6⟩
                have HWL := HW5.out.below hb6
                have hl6 := length_beB n 8
                generalize beB n 8 = ns at HNX HW5 hown6 HWL hl6 ⊢
                have HL6 := Lib.hid hl6
                clear hl6
                go_wp2_with (at_builtin; refine wpList_extend elem_byte _ rfl (.tmp 74) (.tmp 77) rfl w.heap.size bs.length _ (bytesV bs) rfl HWL.b w6.heap.size _ (bytesV ns) rfl (Reads.of_own hown6) (bytesV_one _) (by rw [length_bytesV, HL6.out]; unfold maxLen; omega) (by rw [length_bytesV, HL6.out]; omega) HWL.size ?_; intro A9 c9 w9 hown9 hgrow9 hfr9)
                rw [length_bytesV, bytesV_append] at hown9
                rw [length_bytesV] at hfr9
                have hfin := HWL.putB hgrow9 (ys' := bs ++ ns) (by rw [List.length_append]; exact hown9) hfr9
                clear hown9 hgrow9 hfr9
                rw [← HNX.out] at hfin
                rw [length_bytesV]
                go_roundw
                case rel => exact ⟨k + 1, _, by omega, by omega, by go_num, hfin⟩
                case measure => simp [intOf]; omega
              · have t5 : (dd == 3) = false := by simpa using hd
                clear hd
                have hen : encC ⟨dd, n, .slice A7 raw.length c7, raw⟩ = raw := by unfold encC; simp only []; rw [if_neg (by simpa using t2), if_neg (by simpa using t3), if_neg (by simpa using t4), if_neg (by simpa using t5)]
                rw [hen] at HNX
                clear hen
                go_wp2_with fail
                refine (raw_any _ _ _ _ _ HW.out.a HW.out.size w.heap.size _ raw HR.out (by omega)).mono ?_
                rintro en w5 ⟨rfl, v5, hw5, hf5, ho5⟩
                have HW5 := Lib.hid (HW.out.putA hw5 hf5 ho5)
                have kc : Blk w5 wr.heap.size 46 [.int .i64 dd, .int .u64 n, .slice A7 raw.length c7] := HK.out.off ho5 (fun hS => HW.out.box hzz hS HPB.out.1 HPB.out.2)
                have kc1 : w5.cell? ⟨wr.heap.size, 1, none⟩ = some (.int .u64 n) := kc.cell 1
                have kc2 : w5.cell? ⟨wr.heap.size, 2, none⟩ = some (.slice A7 raw.length c7) := kc.cell 2
                clear hw5 hf5 ho5 kc
                have HR5 : Reads w5 w.heap.size (.slice A7 raw.length c7) (bytesV raw) := HRX.out.below HW5.out.bel
                have HWL := HW5.out
                go_wp2_with (at_builtin; refine wpList_extend elem_byte _ rfl (.tmp 25) (.tmp 27) rfl w.heap.size bs.length _ (bytesV bs) rfl HWL.b w.heap.size _ (bytesV raw) rfl HR5 (bytesV_one _) (by rw [length_bytesV]; unfold maxLen; omega) (by rw [length_bytesV]; omega) HWL.size ?_; intro A9 c9 w9 hown9 hgrow9 hfr9)
                rw [length_bytesV, bytesV_append] at hown9
                rw [length_bytesV] at hfr9
                have hfin := HWL.putB hgrow9 (ys' := bs ++ raw) (by rw [List.length_append]; exact hown9) hfr9
                clear hown9 hgrow9 hfr9
                rw [← HNX.out] at hfin
                rw [length_bytesV]
                go_roundw
                case rel => exact ⟨k + 1, _, by omega, by omega, by go_num, hfin⟩
                case measure => simp [intOf]; omega
    · have hk2 : l.take k = l.take 60 := by rw [List.take_of_length_le (by omega), List.take_of_length_le (by omega)]
      have hlen := encTake_len l 60
      have hsm := HS.out
      rw [hk2] at hwb
      obtain ⟨Au, cu, rfl⟩ := own_form hwb.b
      have HW := Lib.hid hwb
      clear hwb hk2
      go_wp2_with fail
      refine (bytes_any _ _ _ _ _ HW.out.a (by omega)).mono ?_
      rintro en w5 ⟨A5, c5, rfl, hown5, hb5⟩
      have HW5 := Lib.hid (HW.out.below hb5)
      have HO5 := Lib.hid hown5
      clear hown5 hb5
      go_wp2
      refine bodyPost_ret (v := .tuple #[.slice A5 (encAll (l.take 60)).length c5, .slice Au (encAll (l.take 60)).length cu]) (by simp [results, Try.results15, go_sem]) rfl ?_
      exact ⟨_, _, _, _, rfl, Reads.of_own HO5.out, Reads.of_own HW5.out.b, HW5.out.bel⟩
end Go.Proofs.Ythnebanlpmehjaa
