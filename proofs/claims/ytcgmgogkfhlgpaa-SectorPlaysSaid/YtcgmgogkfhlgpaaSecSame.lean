/- The program's disk and the reference's side by side; contracts of same and do. -/
import Derived.Test.YtcgmgogkfhlgpaaSecRD5
import Derived.Test.YtcgmgogkfhlgpaaAwake5
import Derived.Test.YtcgmgogkfhlgpaaOpen5
namespace Go.Proofs.Ytcgmgogkfhlgpaa
open Go.RowKit
set_option linter.unusedVariables false
set_option linter.unusedSimpArgs false

section
variable {w0 w w' W W' w1 w2 : World} {ds ds' : List (Nat × Dk)} {bs bs' : List (Nat × TypeId × List Value)} {rs rs' rs0 : List (Nat × Value × List Value)} {p d g k n : Nat} {s : Dk} {r r' : Rk} {v u : Value} {t : TypeId} {cs : List Value}
theorem q_leftR {P : Program} {f : FuncId} {args : Array Value} {w : World} {n : Nat} {v : Value} (h : Calls P f args (w.drewN n) fun e w' => e = .returned v ∧ w.drewN n = w') :
    Calls P f args (w.drewN n) (Quiet w v) := h.mono fun e w' ⟨he, hw⟩ => ⟨he, n, hw.symm⟩
theorem RM.drewN (h : RM w0 W ds p r bs rs0) (n : Nat) : RM w0 (W.drewN n) ds p r bs rs0 := h.below ⟨rfl, rfl, rfl, Nat.le_refl _, fun _ _ => rfl⟩
theorem RM.drew (h : RM w0 W ds p r bs rs0) : RM w0 W.drew ds p r bs rs0 := h.below ⟨rfl, rfl, rfl, Nat.le_refl _, fun _ _ => rfl⟩
theorem RM.reads1 (h : RM w0 W ds p r bs rs0) {xs : List Value} (hr : (1, v, xs) ∈ rs0) : Reads W W.heap.size v xs := by
  obtain ⟨sv, wv, rs, h1, h2, h3⟩ := h
  exact h2.reads1 (h1 _ hr)
theorem RM.blk (h : RM w0 W ds p r bs rs0) {b : Nat × TypeId × List Value} (hb : b ∈ bs) : Blk W b.1 b.2.1 b.2.2 := by
  obtain ⟨sv, wv, rs, h1, h2, h3⟩ := h
  exact h2.blk (.tail _ hb)
theorem RM.more (h : RM w0 W ds p r bs rs0) (hb : Below W.heap.size W W') (hg : W.heap.size ≤ g) (hk : Blk W' g t cs) : RM w0 W' ds p r ((g, t, cs) :: bs) rs0 :=
  h.lift fun b rs _ h2 => (h2.more hb hg hk).permB (.swap _ _ _)
/-- what the own block holds -/
theorem RM.cells (h : RM w0 W ds p r bs rs0) : p < W.heap.size ∧ (∃ A c, W.cell? ⟨p, 0, none⟩ = some (.slice A r.sure.length c)) ∧ W.cell? ⟨p, 2, none⟩ = some (.int .i64 r.n) ∧ W.cell? ⟨p, 4, none⟩ = some (.bool r.down) := by
  obtain ⟨sv, wv, rs, h1, h2, h3⟩ := h
  obtain ⟨⟨A, c, rfl⟩, _⟩ := h3.form h2
  have hb := h2.blk (.head _)
  exact ⟨hb.lt, ⟨A, c, hb.cell 0⟩, hb.cell 2, hb.cell 4⟩
theorem rm_len (h : RM w0 W ((d, s) :: ds) p r bs rs0) (n : Nat) (hn : s.now.length = n) : Calls Try.prog 26 #[.pointer (some ⟨d, 0, none⟩)] W fun en w' => en = .returned (.int .i64 (n : Int)) ∧ W = w' := by
  obtain ⟨sv, wv, rs, h1, h2, h3⟩ := h
  subst hn
  exact dm_len h2
theorem rm_ops (h : RM w0 W ((d, s) :: ds) p r bs rs0) (o : Int) (ho : s.ops = o) : Calls Try.prog 20 #[.pointer (some ⟨d, 0, none⟩)] W fun en w' => en = .returned (.int .i64 o) ∧ W = w' := by
  obtain ⟨sv, wv, rs, h1, h2, h3⟩ := h
  subst ho
  exact dm_ops h2
theorem rm_down (h : RM w0 W ((d, s) :: ds) p r bs rs0) (o : Bool) (ho : s.down = o) : Calls Try.prog 19 #[.pointer (some ⟨d, 0, none⟩)] W fun en w' => en = .returned (.bool o) ∧ W = w' := by
  obtain ⟨sv, wv, rs, h1, h2, h3⟩ := h
  subst ho
  exact dm_down h2
theorem rm_rdown (h : RM w0 W ds p r bs rs0) (o : Bool) (ho : r.down = o) : Calls Try.prog 35 #[.pointer (some ⟨p, 0, none⟩)] W fun en w' => en = .returned (.bool o) ∧ W = w' := by
  subst ho
  exact rdown_any h
theorem rm_write (h : RM w0 W ((d, s) :: ds) p r bs rs0) (ho : s.ops < 1000000000) (i : Int) (v : Value) (x : List UInt8) (ha : ArgM w0 bs rs0 v x) :
    Calls Try.prog 12 #[.pointer (some ⟨d, 0, none⟩), .int .i64 i, v] W fun en W' => en = .returned (.int .i64 (s.write i x).2) ∧ RM w0 W' ((d, (s.write i x).1) :: ds) p r bs rs0 := by
  obtain ⟨sv, wv, rs, h1, h2, h3⟩ := h
  exact (dm_write h2 ho i v x (ha.mono (fun y hy => .tail _ hy) h1)).mono fun en W' ⟨he, h⟩ => ⟨he, sv, wv, rs, h1, h, h3⟩
theorem rm_flush (h : RM w0 W ((d, s) :: ds) p r bs rs0) (ho : s.ops < 1000000000) :
    Calls Try.prog 13 #[.pointer (some ⟨d, 0, none⟩)] W fun en W' => en = .returned (.int .i64 s.flush.2) ∧ RM w0 W' ((d, s.flush.1) :: ds) p r bs rs0 := by
  obtain ⟨sv, wv, rs, h1, h2, h3⟩ := h
  exact (dm_flush h2 ho).mono fun en W' ⟨he, h⟩ => ⟨he, sv, wv, rs, h1, h, h3⟩
theorem rm_fuse (h : RM w0 W ((d, s) :: ds) p r bs rs0) (ho : s.ops < 1000000000) (n : Int) (hn : -9223372036854775808 ≤ n ∧ n ≤ 9223372036854775807) :
    Calls Try.prog 18 #[.pointer (some ⟨d, 0, none⟩), .int .i64 n] W fun en W' => en = .returned (.tuple #[]) ∧ RM w0 W' ((d, s.fused n) :: ds) p r bs rs0 := by
  obtain ⟨sv, wv, rs, h1, h2, h3⟩ := h
  exact (dm_fuse h2 (by omega) n hn).mono fun en W' ⟨he, h⟩ => ⟨he, sv, wv, rs, h1, h, h3⟩
theorem rm_crash (h : RM w0 W ((d, s) :: ds) p r bs rs0) (v : Value) (x : List UInt8) (ha : ArgM w0 bs rs0 v x) :
    Calls Try.prog 14 #[.pointer (some ⟨d, 0, none⟩), v] W fun en W' => en = .returned (.tuple #[]) ∧ RM w0 W' ((d, s.crash x) :: ds) p r bs rs0 := by
  obtain ⟨sv, wv, rs, h1, h2, h3⟩ := h
  exact (dm_crash h2 v x (ha.mono (fun y hy => .tail _ hy) h1)).mono fun en W' ⟨he, h⟩ => ⟨he, sv, wv, rs, h1, h, h3⟩
theorem rm_copy (h : RM w0 W ((d, s) :: ds) p r bs rs0) (ho : s.ops ≤ 1000000000) :
    Calls Try.prog 21 #[.pointer (some ⟨d, 0, none⟩)] W fun en W' => ∃ q, en = .returned (.pointer (some ⟨q, 0, none⟩)) ∧ RM w0 W' ((q, s) :: (d, s) :: ds) p r bs rs0 := by
  obtain ⟨sv, wv, rs, h1, h2, h3⟩ := h
  exact (dm_copy h2 ho).mono fun en W' ⟨q, he, h⟩ => ⟨q, he, sv, wv, rs, h1, h, h3⟩
theorem Dk.read_no {i e : Int} {x : List UInt8} (h : s.read i = (x, e)) (he : e ≠ 0) : x = [] := by
  unfold Dk.read at h
  split at h
  · split at h
    · injection h with h1 h2; exact h1.symm
    · injection h with h1 h2; exact absurd h2.symm he
  · injection h with h1 h2; exact h1.symm
theorem Rk.read_no {i e : Int} {x : List UInt8} (h : r.read i = (x, e)) (he : e ≠ 0) : x = [] := by
  unfold Rk.read at h
  split at h
  · split at h
    · injection h with h1 h2; exact h1.symm
    · injection h with h1 h2; exact absurd h2.symm he
  · injection h with h1 h2; exact h1.symm
theorem dm_readR (h : DM w0 W ((p, s) :: ds) bs rs) (i e : Int) (x : List UInt8) (hr : s.read i = (x, e)) :
    Calls Try.prog 15 #[.pointer (some ⟨p, 0, none⟩), .int .i64 i] W fun en W' => ∃ A n c, en = .returned (.tuple #[.slice A n c, .int .i64 e]) ∧ DM w0 W' ((p, s) :: ds) bs ((1, .slice A n c, bytesV x) :: rs) := by
  by_cases he : e = 0
  · subst he
    refine (dm_read h i x hr).mono fun en W' ⟨g, h1, h2, h3⟩ => ⟨_, _, _, h1, h3.freeze (sz := 1) (n := 64) (by rw [length_bytesV, h2]) (by unfold maxLen; omega)⟩
  · obtain rfl := Dk.read_no hr he
    exact (dm_readNo h i e he hr).mono fun en W' ⟨h1, h2⟩ => ⟨none, 0, 0, h1, h2.read (Below.refl _ _) (ReadsIn.nil_ _ _)⟩
theorem rm_read (h : RM w0 W ((d, s) :: ds) p r bs rs0) (i e : Int) (x : List UInt8) (hr : s.read i = (x, e)) :
    Calls Try.prog 15 #[.pointer (some ⟨d, 0, none⟩), .int .i64 i] W fun en W' => ∃ A n c, en = .returned (.tuple #[.slice A n c, .int .i64 e]) ∧ RM w0 W' ((d, s) :: ds) p r bs ((1, .slice A n c, bytesV x) :: rs0) := by
  obtain ⟨sv, wv, rs, h1, h2, h3⟩ := h
  refine (dm_readR h2 i e x hr).mono fun en W' ⟨A, n, c, he, h⟩ => ⟨A, n, c, he, sv, wv, (1, .slice A n c, bytesV x) :: rs, fun z hz => ?_, h, h3.mono (fun z hz => .tail _ hz)⟩
  rcases List.mem_cons.1 hz with rfl | hz
  · exact .head _
  · exact .tail _ (h1 z hz)
theorem rm_rread (h : RM w0 W ds p r bs rs0) (i e : Int) (x : List UInt8) (hr : r.read i = (x, e)) :
    Calls Try.prog 25 #[.pointer (some ⟨p, 0, none⟩), .int .i64 i] W fun en W' => ∃ A n c, en = .returned (.tuple #[.slice A n c, .int .i64 e]) ∧ RM w0 W' ds p r bs ((1, .slice A n c, bytesV x) :: rs0) := by
  refine (rread_any h i _ hr).mono fun en W' h2 => ?_
  rcases h2 with ⟨h2, he, h3⟩ | ⟨h2, _, A, c, he, h3⟩
  · obtain rfl := Rk.read_no hr h2
    refine ⟨none, 0, 0, he, ?_⟩
    obtain ⟨sv, wv, rs, h4, h5, h6⟩ := h3
    refine ⟨sv, wv, (1, .slice none 0 0, bytesV []) :: rs, fun z hz => ?_, h5.read (Below.refl _ _) (ReadsIn.nil_ _ _), h6.mono (fun z hz => .tail _ hz)⟩
    rcases List.mem_cons.1 hz with rfl | hz
    · exact .head _
    · exact .tail _ (h4 z hz)
  · simp only at h2
    subst h2
    exact ⟨A, 64, c, he, h3⟩
theorem write_ops (s : Dk) (i : Int) (x : List UInt8) : (s.write i x).1.ops ≤ s.ops + 1 := by
  unfold Dk.write
  split
  · split
    · simp [Dk.oper]
    · simp [Dk.oper, Dk.wrote]
  · simp only
    omega
theorem flush_ops (s : Dk) : s.flush.1.ops ≤ s.ops + 1 := by
  unfold Dk.flush
  split
  · simp [Dk.oper]
  · simp [Dk.oper, Dk.flushed]
theorem rm_full (h : RM w0 W ds p r bs rs0) (b : UInt8) (x : Int) (hx : x = (b.toNat : Int)) : Calls Try.prog 16 #[.int .u8 x] W fun en W' => ∃ g, en = .returned (.slice (some ⟨g, 0, none⟩) 64 64) ∧ RM w0 W' ds p r ((g, 5, bytesV (List.replicate 64 b)) :: bs) rs0 :=
  (full_any W b x hx).mono fun en W' ⟨g, he, hk, _, hg, hb⟩ => ⟨g, he, h.more hb hg hk⟩
theorem rm_sector (h : RM w0 W ds p r bs rs0) (v : Value) (y : List UInt8) (ha : ArgM w0 bs rs0 v y) (b : UInt8) (x : Int) (hx : x = (b.toNat : Int)) : Calls Try.prog 11 #[v, .int .u8 x] W fun en W' => ∃ g, en = .returned (.slice (some ⟨g, 0, none⟩) 64 64) ∧ RM w0 W' ds p r ((g, 5, bytesV (secI y b)) :: bs) rs0 :=
  (sectorL_any W _ v y (h.argReads ha) (Nat.le_refl _) b x hx).mono fun en W' ⟨g, he, hk, _, hg, hb⟩ => ⟨g, he, h.more hb hg hk⟩
set_option maxHeartbeats 3200000 in
set_option maxRecDepth 100000 in
theorem same_any (h : RM w0 W ((d, s) :: ds) p r bs rs0) (ha : Alike s r) : Calls Try.prog 24 #[.pointer (some ⟨d, 0, none⟩), .pointer (some ⟨p, 0, none⟩)] W fun en W' => en = .returned (.bool true) ∧ RM w0 W' ((d, s) :: ds) p r bs rs0 := by
  obtain ⟨hp, ⟨A, c, k0⟩, k2, k4⟩ := h.cells
  obtain ⟨n, hn⟩ : ∃ n, r.sure.length = n := ⟨_, rfl⟩
  obtain ⟨o, ho⟩ : ∃ o, r.n = o := ⟨_, rfl⟩
  obtain ⟨dn, hd⟩ : ∃ d, r.down = d := ⟨_, rfl⟩
  rw [hn] at k0
  rw [ho] at k2
  rw [hd] at k4
  have hn4 : n ≤ 4096 := by rw [← hn]; exact ha.rok.most
  have HLN : Hid (s.now.length = n) := Lib.hid (by rw [ha.len, hn])
  have HOP : Hid (s.ops = o) := Lib.hid (by rw [ha.ops, ho])
  have HDN : Hid (s.down = dn) := Lib.hid (by rw [ha.down, hd])
  have HRD := Lib.hid hd
  have HH := Lib.hid h
  have HA := Lib.hid ha
  clear h ha hn ho hd
  have t1 : ((n : Int) != (n : Int)) = false := by simp
  have t2 : (o != o) = false := by simp
  have t3 : (dn != dn) = false := by simp
  go_enter Try.func24, Try.ntmps24
  go_upto_region 1 with fail
  go_quiet (first
    | (go_at_call 26; exact q_leftR (rm_len (HH.out.drewN _) n HLN.out))
    | (go_at_call 20; exact q_leftR (rm_ops (HH.out.drewN _) o HOP.out))
    | (go_at_call 19; exact q_leftR (rm_down (HH.out.drewN _) dn HDN.out))
    | (go_at_call 35; exact q_leftR (rm_rdown (HH.out.drewN _) dn HRD.out)))
  have HH2 := Lib.hid (HH.out.drewN nq)
  go_wp2
  go_loopw [39] (fun i wr => ∃ (k : Nat), k ≤ n ∧ i = .int .i64 k ∧ Hid (RM w0 wr ((d, s) :: ds) p r bs rs0)) (fun i _ => n - (intOf i).toNat)
  case atStart => exact ⟨0, by omega, rfl, HH2⟩
  case round =>
    obtain ⟨k, hk, rfl, hrm⟩ := hrel
    by_cases hlt : k < n
    · obtain ⟨⟨x, e⟩, hx⟩ : ∃ q, s.read (k : Int) = q := ⟨_, rfl⟩
      have HR1 := Lib.hid hx
      have HR2 : Hid (r.read (k : Int) = (x, e)) := Lib.hid (by rw [← HA.out.read]; exact hx)
      have i1 : (k : Int) < (n : Int) := by omega
      clear hx HH HH2 k0 k2 k4
      go_wp2_with fail
      refine (rm_read hrm.out k e x HR1.out).mono ?_
      rintro en w6 ⟨A6, n6, c6, rfl, h⟩
      have H6 := Lib.hid h
      clear h hrm
      dsimp only
      go_wp2_with fail
      refine (rm_rread H6.out k e x HR2.out).mono ?_
      rintro en w7 ⟨A7, n7, c7, rfl, h⟩
      have H7 := Lib.hid (h.sub (rs0 := rs0) (fun z hz => .tail _ (.tail _ hz)))
      have s6 := run_str (h.reads1 (.tail _ (.head _)))
      have s7 := run_str (h.reads1 (.head _))
      have tyy : (x == x) = true := by simp
      have tyn : (x != x) = false := by simp
      have ten : (e != e) = false := by simp
      clear h H6
      dsimp only
      go_wp2
      go_roundw
      case rel => exact ⟨k + 1, by omega, by go_num, H7⟩
      case measure => simp [intOf]; omega
    · go_wp2
      go_ret
      exact ⟨rfl, hrm.out⟩
set_option maxHeartbeats 3200000 in
set_option maxRecDepth 100000 in
theorem do_any (h : RM w0 W [(d, s)] p r [] []) (ha : Alike s r) (ho : s.ops < 1000000000) (c : CallV) (hc : c.ok w0) :
    Calls Try.prog 23 #[.pointer (some ⟨d, 0, none⟩), .pointer (some ⟨p, 0, none⟩), .agg c.cells.toArray] W fun en W' => ∃ s' r', en = .returned (.bool true) ∧ Alike s' r' ∧ s'.ops ≤ s.ops + 1 ∧ RM w0 W' [(d, s')] p r' [] [] := by
  obtain ⟨dd, ii, bv, raw, x, odd⟩ := c
  obtain ⟨_, hii, hraw, hrl⟩ := hc
  simp only at hii hraw hrl
  obtain ⟨Ab, cb, rfl, _, _⟩ := hraw.form
  rw [length_bytesV] at hraw ⊢
  have H0 := Lib.hid (h.more (g := W.heap.size) (t := 39) (cs := [.int .i64 dd, .int .i64 ii, .slice Ab raw.length cb, .int .u8 (x.toNat : Int), .bool odd]) ((Below.refl _ W).alloc (Nat.le_refl _) (.cells #[.int .i64 dd, .int .i64 ii, .slice Ab raw.length cb, .int .u8 (x.toNat : Int), .bool odd] 39)) (Nat.le_refl _) (Blk.fresh W _ _))
  have HRAW := Lib.hid hraw
  have HA := Lib.hid ha
  have HO := Lib.hid ho
  have HII := Lib.hid hii
  have HRN : Hid (r.n < 1000000000) := Lib.hid (by rw [← ha.ops]; exact ho)
  simp only [CallV.cells]
  clear h ha ho hii hraw hrl
  by_cases h0 : dd = 0
  · subst h0
    obtain ⟨b, hb⟩ : ∃ b, secI raw x = b := ⟨_, rfl⟩
    have HB := Lib.hid hb
    have HBL : Hid (b.length = 64) := Lib.hid (by rw [← hb]; exact secI_len _ _)
    clear hb
    go_enter Try.func23, Try.ntmps23
    go_wp2_with fail
    refine (rm_sector H0.out _ raw (.inl HRAW.out) x _ rfl).mono ?_
    rw [HB.out]
    rintro en w5 ⟨g5, rfl, h⟩
    have D5 := Lib.hid h
    have hkq := h.blk (.tail _ (.head _))
    have q1 := hkq.cell 1
    have q2 := hkq.cell 2
    have q4 := hkq.cell 4
    have hql := hkq.lt
    simp only [List.getElem?_cons_zero, List.getElem?_cons_succ] at q1 q2 q4
    have HKQ : Hid (Blk w5 W.heap.size 39 [.int .i64 0, .int .i64 ii, .slice Ab raw.length cb, .int .u8 (x.toNat : Int), .bool odd]) := Lib.hid hkq
    clear h hkq H0
    cases odd with
    | true =>
      obtain ⟨e1, ha2⟩ := HA.out.write HO.out ii raw
      have hops : (s.write ii raw).1.ops ≤ s.ops + 1 := write_ops s ii raw
      have E1 := Lib.hid e1
      have HA2 := Lib.hid ha2
      have HOP := Lib.hid hops
      clear e1 ha2 hops
      go_upto_region 6 with fail
      refine wp_region_held_drew (S := (fun w' => Blk w' W.heap.size 39 [.int .i64 0, .int .i64 ii, .slice Ab raw.length cb, .int .u8 (x.toNat : Int), .bool true])) (by kernel_rfl) (HKQ.out.drew) (fun hHeld => ?_)
      refine' wpAnyH_take (i := 0) (v := _) rfl (by kernel_rfl) (by kernel_rfl) (by kernel_rfl) (fun _ _ _ h => h) (Or.inl ⟨by rfl, ?taq1⟩) (by assumption) ?tbq1
      case taq1 =>
        intro wS hSw
        (try dsimp only at hSw)
        (have m1 := hSw.cell 1; simp only [List.getElem?_cons_zero, List.getElem?_cons_succ] at m1; clear hSw; go_simp)
        (try (with_reducible rfl))
      (try simp only [List.getElem_toArray, List.getElem_cons_zero, List.getElem_cons_succ, Act.put, List.setIfInBounds_toArray, List.set_cons_zero, List.set_cons_succ])
      refine' wpAnyH_take (i := 1) (v := _) rfl (by kernel_rfl) (by kernel_rfl) (by kernel_rfl) (fun _ _ _ h => h) (Or.inl ⟨by rfl, ?taq2⟩) (by assumption) ?tbq2
      case taq2 =>
        intro wS hSw
        (try dsimp only at hSw)
        (have m1 := hSw.cell 1; simp only [List.getElem?_cons_zero, List.getElem?_cons_succ] at m1; clear hSw; go_simp)
        (try (with_reducible rfl))
      (try simp only [List.getElem_toArray, List.getElem_cons_zero, List.getElem_cons_succ, Act.put, List.setIfInBounds_toArray, List.set_cons_zero, List.set_cons_succ])
      refine' wpAnyH_take (i := 2) (v := _) rfl (by kernel_rfl) (by kernel_rfl) (by kernel_rfl) (fun _ _ _ h => h) (Or.inl ⟨by rfl, ?taq3⟩) (by assumption) ?tbq3
      case taq3 =>
        intro wS hSw
        (try dsimp only at hSw)
        (have m1 := hSw.cell 1; simp only [List.getElem?_cons_zero, List.getElem?_cons_succ] at m1; clear hSw; go_simp)
        (try (with_reducible rfl))
      (try simp only [List.getElem_toArray, List.getElem_cons_zero, List.getElem_cons_succ, Act.put, List.setIfInBounds_toArray, List.set_cons_zero, List.set_cons_succ])
      refine' wpAnyH_take (i := 3) (v := _) rfl (by kernel_rfl) (by kernel_rfl) (by kernel_rfl) (fun _ _ _ h => h) (Or.inl ⟨by rfl, ?taq4⟩) (by assumption) ?tbq4
      case taq4 =>
        intro wS hSw
        (try dsimp only at hSw)
        (have m1 := hSw.cell 1; simp only [List.getElem?_cons_zero, List.getElem?_cons_succ] at m1; clear hSw; go_simp)
        (try (with_reducible rfl))
      (try simp only [List.getElem_toArray, List.getElem_cons_zero, List.getElem_cons_succ, Act.put, List.setIfInBounds_toArray, List.set_cons_zero, List.set_cons_succ])
      refine' wpAnyH_take (i := 5) (v := _) rfl (by kernel_rfl) (by kernel_rfl) (by kernel_rfl) (fun _ _ _ h => h) (Or.inl ⟨by rfl, ?taq5⟩) (by assumption) ?tbq5
      case taq5 =>
        intro wS hSw
        (try dsimp only at hSw)
        (have m1 := hSw.cell 1; simp only [List.getElem?_cons_zero, List.getElem?_cons_succ] at m1; clear hSw; go_simp)
        (try (with_reducible rfl))
      (try simp only [List.getElem_toArray, List.getElem_cons_zero, List.getElem_cons_succ, Act.put, List.setIfInBounds_toArray, List.set_cons_zero, List.set_cons_succ])
      refine' wpAnyH_take (i := 6) (v := _) rfl (by kernel_rfl) (by kernel_rfl) (by kernel_rfl) (fun _ _ _ h => h) (Or.inl ⟨by rfl, ?taq6⟩) (by assumption) ?tbq6
      case taq6 =>
        intro wS hSw
        (try dsimp only at hSw)
        (have m1 := hSw.cell 1; simp only [List.getElem?_cons_zero, List.getElem?_cons_succ] at m1; clear hSw; go_simp)
        (try (with_reducible rfl))
      (try simp only [List.getElem_toArray, List.getElem_cons_zero, List.getElem_cons_succ, Act.put, List.setIfInBounds_toArray, List.set_cons_zero, List.set_cons_succ])
      refine' wpAnyH_take (i := 7) (v := _) rfl (by kernel_rfl) (by kernel_rfl) (by kernel_rfl) (fun _ _ _ h => h) (Or.inl ⟨by rfl, ?taq7⟩) (by assumption) ?tbq7
      case taq7 =>
        intro wS hSw
        (try dsimp only at hSw)
        (have m1 := hSw.cell 1; simp only [List.getElem?_cons_zero, List.getElem?_cons_succ] at m1; clear hSw; go_simp)
        (try (with_reducible rfl))
      (try simp only [List.getElem_toArray, List.getElem_cons_zero, List.getElem_cons_succ, Act.put, List.setIfInBounds_toArray, List.set_cons_zero, List.set_cons_succ])
      refine' wpAnyH_take (i := 8) (v := _) rfl (by kernel_rfl) (by kernel_rfl) (by kernel_rfl) (fun _ _ _ h => h) (Or.inl ⟨by rfl, ?taq8⟩) (by assumption) ?tbq8
      case taq8 =>
        intro wS hSw
        (try dsimp only at hSw)
        (have m1 := hSw.cell 1; simp only [List.getElem?_cons_zero, List.getElem?_cons_succ] at m1; clear hSw; go_simp)
        (try (with_reducible rfl))
      (try simp only [List.getElem_toArray, List.getElem_cons_zero, List.getElem_cons_succ, Act.put, List.setIfInBounds_toArray, List.set_cons_zero, List.set_cons_succ])
      refine wpAnyH_ready (rs := [4]) (by kernel_rfl) (by simp) ?_
      refine AllReadyH.cons rfl (fun K9 hK9 => ?_) AllReadyH.nil
      (try simp only [List.getElem_toArray, List.getElem_cons_zero, List.getElem_cons_succ])
      go_simp
      refine (rm_write D5.out.drew HO.out ii _ raw (.inl HRAW.out)).mono ?_
      rw [E1.out]
      rintro en w6 ⟨rfl, h⟩
      have D6 := Lib.hid h
      clear h
      refine hK9.out _ _ (D6.out.blk (.tail _ (.head _))) (fun hHeld9 => ?_)
      clear hK9 K9
      (try simp only [List.getElem_toArray, List.getElem_cons_zero, List.getElem_cons_succ, Act.put, List.setIfInBounds_toArray, List.set_cons_zero, List.set_cons_succ])
      refine wpAnyH_ready (rs := [9]) (by kernel_rfl) (by simp) ?_
      refine AllReadyH.cons rfl (fun K9 hK9 => ?_) AllReadyH.nil
      (try simp only [List.getElem_toArray, List.getElem_cons_zero, List.getElem_cons_succ])
      go_simp
      refine (rwrite_any D6.out HRN.out ii _ raw (.inl HRAW.out)).mono ?_
      rintro en w7 ⟨rfl, h⟩
      have D7 := Lib.hid h
      clear h
      refine hK9.out _ _ (D7.out.blk (.tail _ (.head _))) (fun hHeld9 => ?_)
      clear hK9 K9
      (try simp only [List.getElem_toArray, List.getElem_cons_zero, List.getElem_cons_succ, Act.put, List.setIfInBounds_toArray, List.set_cons_zero, List.set_cons_succ])
      generalize (r.write ii raw).2 = e
      have te : (e == e) = true := by simp
      refine' wpAnyH_take (i := 10) (v := _) rfl (by kernel_rfl) (by kernel_rfl) (by kernel_rfl) (fun _ _ _ h => h) (Or.inl ⟨by rfl, ?taq9⟩) (by assumption) ?tbq9
      case taq9 =>
        intro wS hSw
        (try dsimp only at hSw)
        (have m1 := hSw.cell 1; simp only [List.getElem?_cons_zero, List.getElem?_cons_succ] at m1; clear hSw; go_simp)
        (try (with_reducible rfl))
      (try simp only [List.getElem_toArray, List.getElem_cons_zero, List.getElem_cons_succ, Act.put, List.setIfInBounds_toArray, List.set_cons_zero, List.set_cons_succ])
      refine' wpAnyH_take (i := 11) (v := _) rfl (by kernel_rfl) (by kernel_rfl) (by kernel_rfl) (fun _ _ _ h => h) (Or.inl ⟨by rfl, ?taq10⟩) (by assumption) ?tbq10
      case taq10 =>
        intro wS hSw
        (try dsimp only at hSw)
        (have m1 := hSw.cell 1; simp only [List.getElem?_cons_zero, List.getElem?_cons_succ] at m1; clear hSw; go_simp)
        (try (with_reducible rfl))
      (try simp only [List.getElem_toArray, List.getElem_cons_zero, List.getElem_cons_succ, Act.put, List.setIfInBounds_toArray, List.set_cons_zero, List.set_cons_succ])
      refine wpAnyH_done (by kernel_rfl) ?_ _
      go_wp2
      go_ret
      exact ⟨_, _, rfl, HA2.out, HOP.out, D7.out.dropB.dropB⟩
    | false =>
      obtain ⟨e1, ha2⟩ := HA.out.write HO.out ii b
      have hops : (s.write ii b).1.ops ≤ s.ops + 1 := write_ops s ii b
      have E1 := Lib.hid e1
      have HA2 := Lib.hid ha2
      have HOP := Lib.hid hops
      clear e1 ha2 hops
      go_upto_region 6 with fail
      refine wp_region_held_drew (S := (fun w' => Blk w' W.heap.size 39 [.int .i64 0, .int .i64 ii, .slice Ab raw.length cb, .int .u8 (x.toNat : Int), .bool false])) (by kernel_rfl) (HKQ.out.drew) (fun hHeld => ?_)
      refine' wpAnyH_take (i := 0) (v := _) rfl (by kernel_rfl) (by kernel_rfl) (by kernel_rfl) (fun _ _ _ h => h) (Or.inl ⟨by rfl, ?taq11⟩) (by assumption) ?tbq11
      case taq11 =>
        intro wS hSw
        (try dsimp only at hSw)
        (have m1 := hSw.cell 1; simp only [List.getElem?_cons_zero, List.getElem?_cons_succ] at m1; clear hSw; go_simp)
        (try (with_reducible rfl))
      (try simp only [List.getElem_toArray, List.getElem_cons_zero, List.getElem_cons_succ, Act.put, List.setIfInBounds_toArray, List.set_cons_zero, List.set_cons_succ])
      refine' wpAnyH_take (i := 1) (v := _) rfl (by kernel_rfl) (by kernel_rfl) (by kernel_rfl) (fun _ _ _ h => h) (Or.inl ⟨by rfl, ?taq12⟩) (by assumption) ?tbq12
      case taq12 =>
        intro wS hSw
        (try dsimp only at hSw)
        (have m1 := hSw.cell 1; simp only [List.getElem?_cons_zero, List.getElem?_cons_succ] at m1; clear hSw; go_simp)
        (try (with_reducible rfl))
      (try simp only [List.getElem_toArray, List.getElem_cons_zero, List.getElem_cons_succ, Act.put, List.setIfInBounds_toArray, List.set_cons_zero, List.set_cons_succ])
      refine' wpAnyH_take (i := 2) (v := _) rfl (by kernel_rfl) (by kernel_rfl) (by kernel_rfl) (fun _ _ _ h => h) (Or.inl ⟨by rfl, ?taq13⟩) (by assumption) ?tbq13
      case taq13 =>
        intro wS hSw
        (try dsimp only at hSw)
        (have m1 := hSw.cell 1; simp only [List.getElem?_cons_zero, List.getElem?_cons_succ] at m1; clear hSw; go_simp)
        (try (with_reducible rfl))
      (try simp only [List.getElem_toArray, List.getElem_cons_zero, List.getElem_cons_succ, Act.put, List.setIfInBounds_toArray, List.set_cons_zero, List.set_cons_succ])
      refine' wpAnyH_take (i := 3) (v := _) rfl (by kernel_rfl) (by kernel_rfl) (by kernel_rfl) (fun _ _ _ h => h) (Or.inl ⟨by rfl, ?taq14⟩) (by assumption) ?tbq14
      case taq14 =>
        intro wS hSw
        (try dsimp only at hSw)
        (have m1 := hSw.cell 1; simp only [List.getElem?_cons_zero, List.getElem?_cons_succ] at m1; clear hSw; go_simp)
        (try (with_reducible rfl))
      (try simp only [List.getElem_toArray, List.getElem_cons_zero, List.getElem_cons_succ, Act.put, List.setIfInBounds_toArray, List.set_cons_zero, List.set_cons_succ])
      refine' wpAnyH_take (i := 5) (v := _) rfl (by kernel_rfl) (by kernel_rfl) (by kernel_rfl) (fun _ _ _ h => h) (Or.inl ⟨by rfl, ?taq15⟩) (by assumption) ?tbq15
      case taq15 =>
        intro wS hSw
        (try dsimp only at hSw)
        (have m1 := hSw.cell 1; simp only [List.getElem?_cons_zero, List.getElem?_cons_succ] at m1; clear hSw; go_simp)
        (try (with_reducible rfl))
      (try simp only [List.getElem_toArray, List.getElem_cons_zero, List.getElem_cons_succ, Act.put, List.setIfInBounds_toArray, List.set_cons_zero, List.set_cons_succ])
      refine' wpAnyH_take (i := 6) (v := _) rfl (by kernel_rfl) (by kernel_rfl) (by kernel_rfl) (fun _ _ _ h => h) (Or.inl ⟨by rfl, ?taq16⟩) (by assumption) ?tbq16
      case taq16 =>
        intro wS hSw
        (try dsimp only at hSw)
        (have m1 := hSw.cell 1; simp only [List.getElem?_cons_zero, List.getElem?_cons_succ] at m1; clear hSw; go_simp)
        (try (with_reducible rfl))
      (try simp only [List.getElem_toArray, List.getElem_cons_zero, List.getElem_cons_succ, Act.put, List.setIfInBounds_toArray, List.set_cons_zero, List.set_cons_succ])
      refine' wpAnyH_take (i := 7) (v := _) rfl (by kernel_rfl) (by kernel_rfl) (by kernel_rfl) (fun _ _ _ h => h) (Or.inl ⟨by rfl, ?taq17⟩) (by assumption) ?tbq17
      case taq17 =>
        intro wS hSw
        (try dsimp only at hSw)
        (have m1 := hSw.cell 1; simp only [List.getElem?_cons_zero, List.getElem?_cons_succ] at m1; clear hSw; go_simp)
        (try (with_reducible rfl))
      (try simp only [List.getElem_toArray, List.getElem_cons_zero, List.getElem_cons_succ, Act.put, List.setIfInBounds_toArray, List.set_cons_zero, List.set_cons_succ])
      refine' wpAnyH_take (i := 8) (v := _) rfl (by kernel_rfl) (by kernel_rfl) (by kernel_rfl) (fun _ _ _ h => h) (Or.inl ⟨by rfl, ?taq18⟩) (by assumption) ?tbq18
      case taq18 =>
        intro wS hSw
        (try dsimp only at hSw)
        (have m1 := hSw.cell 1; simp only [List.getElem?_cons_zero, List.getElem?_cons_succ] at m1; clear hSw; go_simp)
        (try (with_reducible rfl))
      (try simp only [List.getElem_toArray, List.getElem_cons_zero, List.getElem_cons_succ, Act.put, List.setIfInBounds_toArray, List.set_cons_zero, List.set_cons_succ])
      refine wpAnyH_ready (rs := [4]) (by kernel_rfl) (by simp) ?_
      refine AllReadyH.cons rfl (fun K9 hK9 => ?_) AllReadyH.nil
      (try simp only [List.getElem_toArray, List.getElem_cons_zero, List.getElem_cons_succ])
      go_simp
      refine (rm_write D5.out.drew HO.out ii _ b (.inr (.inl ⟨g5, _, 64, rfl, HBL.out, by omega, .head _⟩))).mono ?_
      rw [E1.out]
      rintro en w6 ⟨rfl, h⟩
      have D6 := Lib.hid h
      clear h
      refine hK9.out _ _ (D6.out.blk (.tail _ (.head _))) (fun hHeld9 => ?_)
      clear hK9 K9
      (try simp only [List.getElem_toArray, List.getElem_cons_zero, List.getElem_cons_succ, Act.put, List.setIfInBounds_toArray, List.set_cons_zero, List.set_cons_succ])
      refine wpAnyH_ready (rs := [9]) (by kernel_rfl) (by simp) ?_
      refine AllReadyH.cons rfl (fun K9 hK9 => ?_) AllReadyH.nil
      (try simp only [List.getElem_toArray, List.getElem_cons_zero, List.getElem_cons_succ])
      go_simp
      refine (rwrite_any D6.out HRN.out ii _ b (.inr (.inl ⟨g5, _, 64, rfl, HBL.out, by omega, .head _⟩))).mono ?_
      rintro en w7 ⟨rfl, h⟩
      have D7 := Lib.hid h
      clear h
      refine hK9.out _ _ (D7.out.blk (.tail _ (.head _))) (fun hHeld9 => ?_)
      clear hK9 K9
      (try simp only [List.getElem_toArray, List.getElem_cons_zero, List.getElem_cons_succ, Act.put, List.setIfInBounds_toArray, List.set_cons_zero, List.set_cons_succ])
      generalize (r.write ii b).2 = e
      have te : (e == e) = true := by simp
      refine' wpAnyH_take (i := 10) (v := _) rfl (by kernel_rfl) (by kernel_rfl) (by kernel_rfl) (fun _ _ _ h => h) (Or.inl ⟨by rfl, ?taq19⟩) (by assumption) ?tbq19
      case taq19 =>
        intro wS hSw
        (try dsimp only at hSw)
        (have m1 := hSw.cell 1; simp only [List.getElem?_cons_zero, List.getElem?_cons_succ] at m1; clear hSw; go_simp)
        (try (with_reducible rfl))
      (try simp only [List.getElem_toArray, List.getElem_cons_zero, List.getElem_cons_succ, Act.put, List.setIfInBounds_toArray, List.set_cons_zero, List.set_cons_succ])
      refine' wpAnyH_take (i := 11) (v := _) rfl (by kernel_rfl) (by kernel_rfl) (by kernel_rfl) (fun _ _ _ h => h) (Or.inl ⟨by rfl, ?taq20⟩) (by assumption) ?tbq20
      case taq20 =>
        intro wS hSw
        (try dsimp only at hSw)
        (have m1 := hSw.cell 1; simp only [List.getElem?_cons_zero, List.getElem?_cons_succ] at m1; clear hSw; go_simp)
        (try (with_reducible rfl))
      (try simp only [List.getElem_toArray, List.getElem_cons_zero, List.getElem_cons_succ, Act.put, List.setIfInBounds_toArray, List.set_cons_zero, List.set_cons_succ])
      refine wpAnyH_done (by kernel_rfl) ?_ _
      go_wp2
      go_ret
      exact ⟨_, _, rfl, HA2.out, HOP.out, D7.out.dropB.dropB⟩
  · have t0 : (dd == 0) = false := beq_eq_false_iff_ne.2 h0
    by_cases h1 : dd = 1
    · subst h1
      obtain ⟨e1, ha2⟩ := HA.out.flush HO.out
      have hops : s.flush.1.ops ≤ s.ops + 1 := flush_ops s
      have E1 := Lib.hid e1
      have HA2 := Lib.hid ha2
      have HOP := Lib.hid hops
      clear e1 ha2 hops
      go_enter Try.func23, Try.ntmps23
      go_wp2_with fail
      refine (rm_flush H0.out HO.out).mono ?_
      rw [E1.out]
      rintro en w6 ⟨rfl, h⟩
      have D6 := Lib.hid h
      clear h
      go_wp2_with fail
      refine (rflush_any D6.out HRN.out).mono ?_
      rintro en w7 ⟨rfl, h⟩
      have D7 := Lib.hid h
      clear h
      generalize r.flush.2 = e
      have te : (e == e) = true := by simp
      go_wp2
      go_ret
      exact ⟨_, _, rfl, HA2.out, HOP.out, D7.out.dropB⟩
    · have t1 : (dd == 1) = false := beq_eq_false_iff_ne.2 h1
      have hkq := H0.out.blk (.head _)
      have HKQ : Hid (Blk (W.alloc (.cells #[.int .i64 dd, .int .i64 ii, .slice Ab raw.length cb, .int .u8 (x.toNat : Int), .bool odd] 39)) W.heap.size 39 [.int .i64 dd, .int .i64 ii, .slice Ab raw.length cb, .int .u8 (x.toNat : Int), .bool odd]) := Lib.hid hkq
      clear hkq
      by_cases h2 : dd = 2
      · subst h2
        have HA2 := Lib.hid (HA.out.fused HO.out HII.out.2)
        go_enter Try.func23, Try.ntmps23
        go_wp2_with fail
        refine (rm_fuse H0.out HO.out ii HII.out).mono ?_
        rintro en w6 ⟨rfl, h⟩
        have D6 := Lib.hid h
        have hkq := h.blk (.head _)
        have q1 := hkq.cell 1
        have hql := hkq.lt
        simp only [List.getElem?_cons_zero, List.getElem?_cons_succ] at q1
        clear h hkq
        go_wp2_with fail
        refine (rfuse_any D6.out ii HII.out.2).mono ?_
        rintro en w7 ⟨rfl, h⟩
        have D7 := Lib.hid h
        clear h
        go_wp2
        go_ret
        exact ⟨_, _, rfl, HA2.out, by simp [Dk.fused]; omega, D7.out.dropB⟩
      · have t2 : (dd == 2) = false := beq_eq_false_iff_ne.2 h2
        by_cases h3 : dd = 3
        · subst h3
          have HA2 := Lib.hid (HA.out.crash raw)
          go_enter Try.func23, Try.ntmps23
          go_wp2_with fail
          refine (rm_crash H0.out _ raw (.inl HRAW.out)).mono ?_
          rintro en w6 ⟨rfl, h⟩
          have D6 := Lib.hid h
          have hkq := h.blk (.head _)
          have q2 := hkq.cell 2
          have hql := hkq.lt
          simp only [List.getElem?_cons_zero, List.getElem?_cons_succ] at q2
          clear h hkq
          go_wp2_with fail
          refine (rcrash_any D6.out _ raw (.inl HRAW.out)).mono ?_
          rintro en w7 ⟨rfl, h⟩
          have D7 := Lib.hid h
          clear h
          go_wp2
          go_ret
          exact ⟨_, _, rfl, HA2.out, by simp [Dk.crash]; omega, D7.out.dropB⟩
        · have t3 : (dd == 3) = false := beq_eq_false_iff_ne.2 h3
          go_enter Try.func23, Try.ntmps23
          go_wp2
          go_ret
          first
            | exact ⟨s, r, rfl, HA.out, by omega, H0.out.dropB⟩
            | exact ⟨rfl, s, r, HA.out, by omega, H0.out.dropB⟩
end
end Go.Proofs.Ytcgmgogkfhlgpaa
