/- Contract of pedagoguelaw5.awake. -/
import Derived.Test.YtcgmgogkfhlgpaaSecDS
import Derived.Test.YtcgmgogkfhlgpaaSecUp
namespace Go.Proofs.Ytcgmgogkfhlgpaa
open Go.RowKit
set_option linter.unusedVariables false
set_option linter.unusedSimpArgs false

theorem run_str {w : World} {B : Nat} {v : Value} {bs : List UInt8} (h : Reads w B v (bytesV bs)) : (convert 22 9 v).run Try.prog w = .ok (.string ⟨bs.toArray⟩) w :=
  run_string _ _ 5 Try.underlying22 Try.underlying5 Try.underlying9 h
theorem Blk.str {w : World} {g n k : Nat} {t : TypeId} {bs : List UInt8} (h : Blk w g t (bytesV bs)) (hn : bs.length = n) (hk : k ≤ n) (hm : n ≤ 1000000) : (convert 22 9 (.slice (some ⟨g, 0, none⟩) k n)).run Try.prog w = .ok (.string ⟨(bs.take k).toArray⟩) w := by
  have h2 := (h.readsN (n := n) (sz := 1) (by rw [length_bytesV, hn]; simp) (by unfold maxLen; omega)).take hk
  rw [Nat.mul_one, bytesV_take] at h2
  exact run_str h2.one
theorem Blk.strAll {w : World} {g n : Nat} {t : TypeId} {bs : List UInt8} (h : Blk w g t (bytesV bs)) (hn : bs.length = n) (hm : n ≤ 1000000) : (convert 22 9 (.slice (some ⟨g, 0, none⟩) n n)).run Try.prog w = .ok (.string ⟨bs.toArray⟩) w := by
  have := h.str hn (Nat.le_refl n) hm
  rwa [List.take_of_length_le (by omega)] at this
def aw1 : List UInt8 := List.replicate 64 1
def aw2 : List UInt8 := List.replicate 64 2
def aws : Dk := (((Dk.new 2).oper.wrote 0 aw1).oper.flushed).oper.wrote 0 aw2
theorem aws_read : (aws.crash [3]).read 0 = (aw2.take 32 ++ aw1.take 32, 0) := by decide +kernel
theorem aws0 : (Dk.new 2).Ok := Dk.new_ok (by omega)
theorem aws1 : ((Dk.new 2).oper.wrote 0 aw1).Ok := Dk.wrote_ok aws0 (by simp [Dk.new]) (by simp [aw1])
theorem aws2 : (((Dk.new 2).oper.wrote 0 aw1).oper.flushed).Ok := Dk.flushed_ok aws1
theorem u1 : ((Dk.new 2).oper.wrote 0 aw1).up := Dk.up_wrote (Dk.up_oper aws0 (Dk.up_new 2)) 0 aw1
theorem u2 : (((Dk.new 2).oper.wrote 0 aw1).oper.flushed).up := Dk.up_flushed (Dk.up_oper aws1 u1)
theorem aw_w1 : (Dk.new 2).write 0 aw1 = ((Dk.new 2).oper.wrote 0 aw1, 0) := Dk.up_write (k := 0) aws0 (Dk.up_new 2) (by simp [Dk.new]) (by simp [aw1])
theorem aw_f : ((Dk.new 2).oper.wrote 0 aw1).flush = (((Dk.new 2).oper.wrote 0 aw1).oper.flushed, 0) := Dk.up_flush aws1 u1
theorem aw_w2 : (((Dk.new 2).oper.wrote 0 aw1).oper.flushed).write 0 aw2 = (aws, 0) := Dk.up_write (k := 0) aws2 u2 (by simp [Dk.new, Dk.wrote, Dk.flushed, Dk.oper]) (by simp [aw2])
set_option maxHeartbeats 3200000 in
set_option maxRecDepth 100000 in
theorem awake5_any (w : World) : Calls Try.prog 17 #[] w fun en w' => en = .returned (.bool true) ∧ Below w.heap.size w w' := by
  have AW1 := Lib.hid aw_w1
  have AF := Lib.hid aw_f
  have AW2 := Lib.hid aw_w2
  have AR := Lib.hid aws_read
  obtain ⟨s0, e0⟩ : ∃ s, Dk.new 2 = s := ⟨_, rfl⟩
  have O0 : Hid (s0.ops = 0) := Lib.hid (by rw [← e0]; rfl)
  have O1 : Hid ((s0.oper.wrote 0 aw1).ops = 1) := Lib.hid (by rw [← e0]; rfl)
  have O2 : Hid (((s0.oper.wrote 0 aw1).oper.flushed).ops = 2) := Lib.hid (by rw [← e0]; rfl)
  have HN : Hid (∀ W, DS w W [] [] → Calls Try.prog 10 #[.int .i64 2] W fun en W' => ∃ q, en = .returned (.pointer (some ⟨q, 0, none⟩)) ∧ DS w W' [(q, s0)] []) := Lib.hid (fun W h => by rw [← e0]; exact ds_new h 2 2 (by decide))
  rw [e0] at AW1 AF AW2
  generalize (s0.oper.wrote 0 aw1) = s1 at AW1 AF AW2 O1 O2
  generalize s1.oper.flushed = s2 at AF AW2 O2
  generalize aws = s3 at AW2 AR
  clear e0
  have R1 : Hid (List.replicate 64 (1 : UInt8) = aw1) := Lib.hid rfl
  have R2 : Hid (List.replicate 64 (2 : UInt8) = aw2) := Lib.hid rfl
  have L1 : Hid (aw1.length = 64) := Lib.hid (by simp [aw1])
  have L2 : Hid (aw2.length = 64) := Lib.hid (by simp [aw2])
  generalize aw1 = b1 at *
  generalize aw2 = b2 at *
  go_enter Try.func17, Try.ntmps17
  go_wp2_with fail
  refine (HN.out w (DS.start w)).mono ?_
  rintro en w1 ⟨p, rfl, h⟩
  have D1 := Lib.hid h
  clear h
  go_wp2_with fail
  refine (ds_full D1.out 1 1 rfl).mono ?_
  rw [R1.out]
  rintro en w2 ⟨g1, rfl, h⟩
  have D2 := Lib.hid h
  clear h
  go_wp2_with fail
  refine (ds_write D2.out (by rw [O0.out]; omega) 0 _ b1 (.inr ⟨g1, _, 64, rfl, L1.out, by omega, .head _⟩)).mono ?_
  rw [AW1.out]
  rintro en w3 ⟨rfl, h⟩
  have D3 := Lib.hid (h.sub (bs' := []) (fun b hb => by cases hb))
  clear h
  go_wp2_with fail
  refine (ds_flush D3.out (by rw [O1.out]; omega)).mono ?_
  rw [AF.out]
  rintro en w4 ⟨rfl, h⟩
  have D4 := Lib.hid h
  clear h
  go_wp2_with fail
  refine (ds_full D4.out 2 2 rfl).mono ?_
  rw [R2.out]
  rintro en w5 ⟨g2, rfl, h⟩
  have D5 := Lib.hid h
  clear h
  go_wp2_with fail
  refine (ds_write D5.out (by rw [O2.out]; omega) 0 _ b2 (.inr ⟨g2, _, 64, rfl, L2.out, by omega, .head _⟩)).mono ?_
  rw [AW2.out]
  rintro en w6 ⟨rfl, h⟩
  have D6 := Lib.hid (h.sub (bs' := []) (fun b hb => by cases hb))
  clear h
  go_wp2_with fail
  have D7 := Lib.hid (D6.out.more (g := w6.heap.size) (t := 5) (cs := bytesV [3]) ((Below.refl _ w6).alloc (Nat.le_refl _) _) (Nat.le_refl _) (Blk.fresh w6 5 (bytesV [3])))
  refine (ds_crash D7.out _ [3] (.inr ⟨w6.heap.size, _, 1, rfl, rfl, by omega, .head _⟩)).mono ?_
  rintro en w8 ⟨rfl, h⟩
  have D8 := Lib.hid (h.sub (bs' := []) (fun b hb => by cases hb))
  clear h D7
  go_wp2_with fail
  refine (ds_read D8.out 0 _ AR.out).mono ?_
  rintro en w9 ⟨g9, rfl, hl9, h⟩
  have D9 := Lib.hid h
  have HL9 := Lib.hid hl9
  clear h hl9
  dsimp only
  go_upto_region 6 with fail
  have c9 := (D9.out.blk (.head _)).strAll HL9.out (by omega)
  have heq : (⟨(b2.take 32 ++ b1.take 32).toArray⟩ : ByteArray) = ⟨(b2.take 32).toArray⟩ ++ ⟨(b1.take 32).toArray⟩ := by
    apply ByteArray.ext
    simp
  have hm1 : min 32 b1.length = 32 := by rw [L1.out]; rfl
  have hm2 : min 32 b2.length = 32 := by rw [L2.out]; rfl
  generalize hx9 : b2.take 32 ++ b1.take 32 = x9 at *
  clear hx9
  refine wp_region_held_drew (S := (fun w' => (convert 22 9 (.slice (some ⟨g9, 0, none⟩) 64 64)).run Try.prog w' = .ok (.string ⟨x9.toArray⟩) w')) (by kernel_rfl) ((D9.out.drew.blk (.head _)).strAll HL9.out (by omega)) (fun hHeld => ?_)
  refine' wpAnyH_take (i := 0) (v := _) rfl (by kernel_rfl) (by kernel_rfl) (by kernel_rfl) (fun _ _ _ h => h) (Or.inl ⟨by rfl, ?taq1⟩) (by assumption) ?tbq1
  case taq1 =>
    intro wS hSw
    (try dsimp only at hSw)
    go_simp
    (try (with_reducible rfl))
  (try simp only [List.getElem_toArray, List.getElem_cons_zero, List.getElem_cons_succ, Act.put, List.setIfInBounds_toArray, List.set_cons_zero, List.set_cons_succ])
  refine' wpAnyH_take (i := 1) (v := _) rfl (by kernel_rfl) (by kernel_rfl) (by kernel_rfl) (fun _ _ _ h => h) (Or.inl ⟨by rfl, ?taq2⟩) (by assumption) ?tbq2
  case taq2 =>
    intro wS hSw
    (try dsimp only at hSw)
    go_simp
    (try (with_reducible rfl))
  (try simp only [List.getElem_toArray, List.getElem_cons_zero, List.getElem_cons_succ, Act.put, List.setIfInBounds_toArray, List.set_cons_zero, List.set_cons_succ])
  refine' wpAnyH_take (i := 2) (v := _) rfl (by kernel_rfl) (by kernel_rfl) (by kernel_rfl) (fun _ _ _ h => h) (Or.inl ⟨by rfl, ?taq3⟩) (by assumption) ?tbq3
  case taq3 =>
    intro wS hSw
    (try dsimp only at hSw)
    go_simp
    (try (with_reducible rfl))
  (try simp only [List.getElem_toArray, List.getElem_cons_zero, List.getElem_cons_succ, Act.put, List.setIfInBounds_toArray, List.set_cons_zero, List.set_cons_succ])
  refine' wpAnyH_take (i := 3) (v := _) rfl (by kernel_rfl) (by kernel_rfl) (by kernel_rfl) (fun _ _ _ h => h) (Or.inl ⟨by rfl, ?taq4⟩) (by assumption) ?tbq4
  case taq4 =>
    intro wS hSw
    (try dsimp only at hSw)
    go_simp
    (try (with_reducible rfl))
  (try simp only [List.getElem_toArray, List.getElem_cons_zero, List.getElem_cons_succ, Act.put, List.setIfInBounds_toArray, List.set_cons_zero, List.set_cons_succ])
  refine' wpAnyH_take (i := 4) (v := _) rfl (by kernel_rfl) (by kernel_rfl) (by kernel_rfl) (fun _ _ _ h => h) (Or.inl ⟨by rfl, ?taq5⟩) (by assumption) ?tbq5
  case taq5 =>
    intro wS hSw
    (try dsimp only at hSw)
    go_simp
    (try (with_reducible rfl))
  (try simp only [List.getElem_toArray, List.getElem_cons_zero, List.getElem_cons_succ, Act.put, List.setIfInBounds_toArray, List.set_cons_zero, List.set_cons_succ])
  refine' wpAnyH_take (i := 5) (v := _) rfl (by kernel_rfl) (by kernel_rfl) (by kernel_rfl) (fun _ _ _ h => h) (Or.inl ⟨by rfl, ?taq6⟩) (by assumption) ?tbq6
  case taq6 =>
    intro wS hSw
    (try dsimp only at hSw)
    go_simp
    (try (with_reducible rfl))
  (try simp only [List.getElem_toArray, List.getElem_cons_zero, List.getElem_cons_succ, Act.put, List.setIfInBounds_toArray, List.set_cons_zero, List.set_cons_succ])
  refine' wpAnyH_take (i := 6) (v := _) rfl (by kernel_rfl) (by kernel_rfl) (by kernel_rfl) (fun _ _ _ h => h) (Or.inl ⟨by rfl, ?taq7⟩) (by assumption) ?tbq7
  case taq7 =>
    intro wS hSw
    (try dsimp only at hSw)
    go_simp
    (try (with_reducible rfl))
  (try simp only [List.getElem_toArray, List.getElem_cons_zero, List.getElem_cons_succ, Act.put, List.setIfInBounds_toArray, List.set_cons_zero, List.set_cons_succ])
  refine' wpAnyH_take (i := 7) (v := _) rfl (by kernel_rfl) (by kernel_rfl) (by kernel_rfl) (fun _ _ _ h => h) (Or.inl ⟨by rfl, ?taq8⟩) (by assumption) ?tbq8
  case taq8 =>
    intro wS hSw
    (try dsimp only at hSw)
    go_simp
    (try (with_reducible rfl))
  (try simp only [List.getElem_toArray, List.getElem_cons_zero, List.getElem_cons_succ, Act.put, List.setIfInBounds_toArray, List.set_cons_zero, List.set_cons_succ])
  refine' wpAnyH_take (i := 8) (v := _) rfl (by kernel_rfl) (by kernel_rfl) (by kernel_rfl) (fun _ _ _ h => h) (Or.inl ⟨by rfl, ?taq9⟩) (by assumption) ?tbq9
  case taq9 =>
    intro wS hSw
    (try dsimp only at hSw)
    go_simp
    (try (with_reducible rfl))
  (try simp only [List.getElem_toArray, List.getElem_cons_zero, List.getElem_cons_succ, Act.put, List.setIfInBounds_toArray, List.set_cons_zero, List.set_cons_succ])
  refine' wpAnyH_take (i := 9) (v := _) rfl (by kernel_rfl) (by kernel_rfl) (by kernel_rfl) (fun _ _ _ h => h) (Or.inl ⟨by rfl, ?taq10⟩) (by assumption) ?tbq10
  case taq10 =>
    intro wS hSw
    (try dsimp only at hSw)
    go_simp
    (try (with_reducible rfl))
  (try simp only [List.getElem_toArray, List.getElem_cons_zero, List.getElem_cons_succ, Act.put, List.setIfInBounds_toArray, List.set_cons_zero, List.set_cons_succ])
  refine' wpAnyH_take (i := 10) (v := _) rfl (by kernel_rfl) (by kernel_rfl) (by kernel_rfl) (fun _ _ _ h => h) (Or.inl ⟨by rfl, ?taq11⟩) (by assumption) ?tbq11
  case taq11 =>
    intro wS hSw
    (try dsimp only at hSw)
    go_simp
    (try (with_reducible rfl))
  (try simp only [List.getElem_toArray, List.getElem_cons_zero, List.getElem_cons_succ, Act.put, List.setIfInBounds_toArray, List.set_cons_zero, List.set_cons_succ])
  refine' wpAnyH_take (i := 11) (v := _) rfl (by kernel_rfl) (by kernel_rfl) (by kernel_rfl) (fun _ _ _ h => h) (Or.inl ⟨by rfl, ?taq12⟩) (by assumption) ?tbq12
  case taq12 =>
    intro wS hSw
    (try dsimp only at hSw)
    go_simp
    (try (with_reducible rfl))
  (try simp only [List.getElem_toArray, List.getElem_cons_zero, List.getElem_cons_succ, Act.put, List.setIfInBounds_toArray, List.set_cons_zero, List.set_cons_succ])
  refine' wpAnyH_take (i := 12) (v := _) rfl (by kernel_rfl) (by kernel_rfl) (by kernel_rfl) (fun _ _ _ h => h) (Or.inl ⟨by rfl, ?taq13⟩) (by assumption) ?tbq13
  case taq13 =>
    intro wS hSw
    (try dsimp only at hSw)
    go_simp
    (try (with_reducible rfl))
  (try simp only [List.getElem_toArray, List.getElem_cons_zero, List.getElem_cons_succ, Act.put, List.setIfInBounds_toArray, List.set_cons_zero, List.set_cons_succ])
  refine' wpAnyH_take (i := 13) (v := _) rfl (by kernel_rfl) (by kernel_rfl) (by kernel_rfl) (fun _ _ _ h => h) (Or.inl ⟨by rfl, ?taq14⟩) (by assumption) ?tbq14
  case taq14 =>
    intro wS hSw
    (try dsimp only at hSw)
    go_simp
    (try (with_reducible rfl))
  (try simp only [List.getElem_toArray, List.getElem_cons_zero, List.getElem_cons_succ, Act.put, List.setIfInBounds_toArray, List.set_cons_zero, List.set_cons_succ])
  refine' wpAnyH_take (i := 14) (v := _) rfl (by kernel_rfl) (by kernel_rfl) (by kernel_rfl) (fun _ _ _ h => h) (Or.inl ⟨by rfl, ?taq15⟩) (by assumption) ?tbq15
  case taq15 =>
    intro wS hSw
    (try dsimp only at hSw)
    go_simp
    (try (with_reducible rfl))
  (try simp only [List.getElem_toArray, List.getElem_cons_zero, List.getElem_cons_succ, Act.put, List.setIfInBounds_toArray, List.set_cons_zero, List.set_cons_succ])
  refine' wpAnyH_take (i := 15) (v := _) rfl (by kernel_rfl) (by kernel_rfl) (by kernel_rfl) (fun _ _ _ h => h) (Or.inl ⟨by rfl, ?taq16⟩) (by assumption) ?tbq16
  case taq16 =>
    intro wS hSw
    (try dsimp only at hSw)
    go_simp
    (try (with_reducible rfl))
  (try simp only [List.getElem_toArray, List.getElem_cons_zero, List.getElem_cons_succ, Act.put, List.setIfInBounds_toArray, List.set_cons_zero, List.set_cons_succ])
  refine' wpAnyH_take (i := 16) (v := _) rfl (by kernel_rfl) (by kernel_rfl) (by kernel_rfl) (fun _ _ _ h => h) (Or.inl ⟨by rfl, ?taq17⟩) (by assumption) ?tbq17
  case taq17 =>
    intro wS hSw
    (try dsimp only at hSw)
    go_simp
    (try (with_reducible rfl))
  (try simp only [List.getElem_toArray, List.getElem_cons_zero, List.getElem_cons_succ, Act.put, List.setIfInBounds_toArray, List.set_cons_zero, List.set_cons_succ])
  refine wpAnyH_ready (rs := [17]) (by kernel_rfl) (by simp) ?_
  refine AllReadyH.cons rfl (fun K9 hK9 => ?_) AllReadyH.nil
  (try simp only [List.getElem_toArray, List.getElem_cons_zero, List.getElem_cons_succ])
  go_simp
  refine (ds_full D9.out.drew 2 2 rfl).mono ?_
  rw [R2.out]
  rintro en w10 ⟨g10, rfl, h⟩
  have D10 := Lib.hid h
  clear h
  refine hK9.out _ _ ((D10.out.blk (.tail _ (.head _))).strAll HL9.out (by omega)) (fun hHeld9 => ?_)
  clear hK9 K9
  (try simp only [List.getElem_toArray, List.getElem_cons_zero, List.getElem_cons_succ, Act.put, List.setIfInBounds_toArray, List.set_cons_zero, List.set_cons_succ])
  refine' wpAnyH_take (i := 18) (v := _) rfl (by kernel_rfl) (by kernel_rfl) (by kernel_rfl) (fun _ _ _ h => h) (Or.inl ⟨by rfl, ?taq18⟩) (by assumption) ?tbq18
  case taq18 =>
    intro wS hSw
    (try dsimp only at hSw)
    go_simp
    (try (with_reducible rfl))
  (try simp only [List.getElem_toArray, List.getElem_cons_zero, List.getElem_cons_succ, Act.put, List.setIfInBounds_toArray, List.set_cons_zero, List.set_cons_succ])
  have q10 := (D10.out.blk (.head _)).str (k := 32) L2.out (by omega) (by omega)
  refine wpAnyH_ready (rs := [19, 20]) (by kernel_rfl) (by simp) ?_
  refine AllReadyH.cons rfl (fun K9 hK9 => ?_) (AllReadyH.cons rfl (fun K9 hK9 => ?_) AllReadyH.nil)
  · (try simp only [List.getElem_toArray, List.getElem_cons_zero, List.getElem_cons_succ])
    go_simp
    refine hK9.out _ _ ((D10.out.blk (.tail _ (.head _))).strAll HL9.out (by omega)) (fun hHeld9 => ?_)
    clear hK9 K9
    (try simp only [List.getElem_toArray, List.getElem_cons_zero, List.getElem_cons_succ, Act.put, List.setIfInBounds_toArray, List.set_cons_zero, List.set_cons_succ])
    refine wpAnyH_ready (rs := [20]) (by kernel_rfl) (by simp) ?_
    refine AllReadyH.cons rfl (fun K9 hK9 => ?_) AllReadyH.nil
    (try simp only [List.getElem_toArray, List.getElem_cons_zero, List.getElem_cons_succ])
    go_simp
    refine (ds_full D10.out 1 1 rfl).mono ?_
    rw [R1.out]
    rintro en w11 ⟨g11, rfl, h⟩
    have D11 := Lib.hid h
    have q11 := (D11.out.blk (.head _)).str (k := 32) L1.out (by omega) (by omega)
    have q12 := (D11.out.blk (.tail _ (.head _))).str (k := 32) L2.out (by omega) (by omega)
    clear h
    refine hK9.out _ _ ((D11.out.blk (.tail _ (.tail _ (.head _)))).strAll HL9.out (by omega)) (fun hHeld9 => ?_)
    clear hK9 K9
    (try simp only [List.getElem_toArray, List.getElem_cons_zero, List.getElem_cons_succ, Act.put, List.setIfInBounds_toArray, List.set_cons_zero, List.set_cons_succ])
    refine' wpAnyH_take (i := 21) (v := _) rfl (by kernel_rfl) (by kernel_rfl) (by kernel_rfl) (fun _ _ _ h => h) (Or.inl ⟨by rfl, ?taq19⟩) (by assumption) ?tbq19
    case taq19 =>
      intro wS hSw
      (try dsimp only at hSw)
      go_simp
      (try (with_reducible rfl))
    (try simp only [List.getElem_toArray, List.getElem_cons_zero, List.getElem_cons_succ, Act.put, List.setIfInBounds_toArray, List.set_cons_zero, List.set_cons_succ])
    refine wpAnyH_ready (rs := [22]) (by kernel_rfl) (by simp) ?_
    refine AllReadyH.cons rfl (fun K9 hK9 => ?_) AllReadyH.nil
    (try simp only [List.getElem_toArray, List.getElem_cons_zero, List.getElem_cons_succ])
    go_simp
    refine hK9.out _ _ ((D11.out.blk (.tail _ (.tail _ (.head _)))).strAll HL9.out (by omega)) (fun hHeld9 => ?_)
    clear hK9 K9
    (try simp only [List.getElem_toArray, List.getElem_cons_zero, List.getElem_cons_succ, Act.put, List.setIfInBounds_toArray, List.set_cons_zero, List.set_cons_succ])
    refine' wpAnyH_take (i := 23) (v := _) rfl (by kernel_rfl) (by kernel_rfl) (by kernel_rfl) (fun _ _ _ h => h) (Or.inl ⟨by rfl, ?taq20⟩) (by assumption) ?tbq20
    case taq20 =>
      intro wS hSw
      (try dsimp only at hSw)
      go_simp
      (try (with_reducible rfl))
    (try simp only [List.getElem_toArray, List.getElem_cons_zero, List.getElem_cons_succ, Act.put, List.setIfInBounds_toArray, List.set_cons_zero, List.set_cons_succ])
    refine' wpAnyH_take (i := 24) (v := _) rfl (by kernel_rfl) (by kernel_rfl) (by kernel_rfl) (fun _ _ _ h => h) (Or.inl ⟨by rfl, ?taq21⟩) (by assumption) ?tbq21
    case taq21 =>
      intro wS hSw
      (try dsimp only at hSw)
      go_simp
      (try (with_reducible rfl))
    (try simp only [List.getElem_toArray, List.getElem_cons_zero, List.getElem_cons_succ, Act.put, List.setIfInBounds_toArray, List.set_cons_zero, List.set_cons_succ])
    refine' wpAnyH_take (i := 25) (v := _) rfl (by kernel_rfl) (by kernel_rfl) (by kernel_rfl) (fun _ _ _ h => h) (Or.inl ⟨by rfl, ?taq22⟩) (by assumption) ?tbq22
    case taq22 =>
      intro wS hSw
      (try dsimp only at hSw)
      go_simp
      (try (with_reducible rfl))
    (try simp only [List.getElem_toArray, List.getElem_cons_zero, List.getElem_cons_succ, Act.put, List.setIfInBounds_toArray, List.set_cons_zero, List.set_cons_succ])
    refine' wpAnyH_take (i := 26) (v := _) rfl (by kernel_rfl) (by kernel_rfl) (by kernel_rfl) (fun _ _ _ h => h) (Or.inl ⟨by rfl, ?taq23⟩) (by assumption) ?tbq23
    case taq23 =>
      intro wS hSw
      (try dsimp only at hSw)
      go_simp
      (try (with_reducible rfl))
    (try simp only [List.getElem_toArray, List.getElem_cons_zero, List.getElem_cons_succ, Act.put, List.setIfInBounds_toArray, List.set_cons_zero, List.set_cons_succ])
    refine wpAnyH_done (by kernel_rfl) ?_ _
    go_wp2
    go_ret
    exact ⟨rfl, D11.out.bel⟩
  · (try simp only [List.getElem_toArray, List.getElem_cons_zero, List.getElem_cons_succ])
    go_simp
    refine (ds_full D10.out 1 1 rfl).mono ?_
    rw [R1.out]
    rintro en w11 ⟨g11, rfl, h⟩
    have D11 := Lib.hid h
    have q11 := (D11.out.blk (.head _)).str (k := 32) L1.out (by omega) (by omega)
    have q12 := (D11.out.blk (.tail _ (.head _))).str (k := 32) L2.out (by omega) (by omega)
    clear h
    refine hK9.out _ _ ((D11.out.blk (.tail _ (.tail _ (.head _)))).strAll HL9.out (by omega)) (fun hHeld9 => ?_)
    clear hK9 K9
    (try simp only [List.getElem_toArray, List.getElem_cons_zero, List.getElem_cons_succ, Act.put, List.setIfInBounds_toArray, List.set_cons_zero, List.set_cons_succ])
    refine' wpAnyH_take (i := 21) (v := _) rfl (by kernel_rfl) (by kernel_rfl) (by kernel_rfl) (fun _ _ _ h => h) (Or.inl ⟨by rfl, ?taq24⟩) (by assumption) ?tbq24
    case taq24 =>
      intro wS hSw
      (try dsimp only at hSw)
      go_simp
      (try (with_reducible rfl))
    (try simp only [List.getElem_toArray, List.getElem_cons_zero, List.getElem_cons_succ, Act.put, List.setIfInBounds_toArray, List.set_cons_zero, List.set_cons_succ])
    refine wpAnyH_ready (rs := [19, 22]) (by kernel_rfl) (by simp) ?_
    refine AllReadyH.cons rfl (fun K9 hK9 => ?_) (AllReadyH.cons rfl (fun K9 hK9 => ?_) AllReadyH.nil)
    · (try simp only [List.getElem_toArray, List.getElem_cons_zero, List.getElem_cons_succ])
      go_simp
      refine hK9.out _ _ ((D11.out.blk (.tail _ (.tail _ (.head _)))).strAll HL9.out (by omega)) (fun hHeld9 => ?_)
      clear hK9 K9
      (try simp only [List.getElem_toArray, List.getElem_cons_zero, List.getElem_cons_succ, Act.put, List.setIfInBounds_toArray, List.set_cons_zero, List.set_cons_succ])
      refine wpAnyH_ready (rs := [22]) (by kernel_rfl) (by simp) ?_
      refine AllReadyH.cons rfl (fun K9 hK9 => ?_) AllReadyH.nil
      (try simp only [List.getElem_toArray, List.getElem_cons_zero, List.getElem_cons_succ])
      go_simp
      refine hK9.out _ _ ((D11.out.blk (.tail _ (.tail _ (.head _)))).strAll HL9.out (by omega)) (fun hHeld9 => ?_)
      clear hK9 K9
      (try simp only [List.getElem_toArray, List.getElem_cons_zero, List.getElem_cons_succ, Act.put, List.setIfInBounds_toArray, List.set_cons_zero, List.set_cons_succ])
      refine' wpAnyH_take (i := 23) (v := _) rfl (by kernel_rfl) (by kernel_rfl) (by kernel_rfl) (fun _ _ _ h => h) (Or.inl ⟨by rfl, ?taq25⟩) (by assumption) ?tbq25
      case taq25 =>
        intro wS hSw
        (try dsimp only at hSw)
        go_simp
        (try (with_reducible rfl))
      (try simp only [List.getElem_toArray, List.getElem_cons_zero, List.getElem_cons_succ, Act.put, List.setIfInBounds_toArray, List.set_cons_zero, List.set_cons_succ])
      refine' wpAnyH_take (i := 24) (v := _) rfl (by kernel_rfl) (by kernel_rfl) (by kernel_rfl) (fun _ _ _ h => h) (Or.inl ⟨by rfl, ?taq26⟩) (by assumption) ?tbq26
      case taq26 =>
        intro wS hSw
        (try dsimp only at hSw)
        go_simp
        (try (with_reducible rfl))
      (try simp only [List.getElem_toArray, List.getElem_cons_zero, List.getElem_cons_succ, Act.put, List.setIfInBounds_toArray, List.set_cons_zero, List.set_cons_succ])
      refine' wpAnyH_take (i := 25) (v := _) rfl (by kernel_rfl) (by kernel_rfl) (by kernel_rfl) (fun _ _ _ h => h) (Or.inl ⟨by rfl, ?taq27⟩) (by assumption) ?tbq27
      case taq27 =>
        intro wS hSw
        (try dsimp only at hSw)
        go_simp
        (try (with_reducible rfl))
      (try simp only [List.getElem_toArray, List.getElem_cons_zero, List.getElem_cons_succ, Act.put, List.setIfInBounds_toArray, List.set_cons_zero, List.set_cons_succ])
      refine' wpAnyH_take (i := 26) (v := _) rfl (by kernel_rfl) (by kernel_rfl) (by kernel_rfl) (fun _ _ _ h => h) (Or.inl ⟨by rfl, ?taq28⟩) (by assumption) ?tbq28
      case taq28 =>
        intro wS hSw
        (try dsimp only at hSw)
        go_simp
        (try (with_reducible rfl))
      (try simp only [List.getElem_toArray, List.getElem_cons_zero, List.getElem_cons_succ, Act.put, List.setIfInBounds_toArray, List.set_cons_zero, List.set_cons_succ])
      refine wpAnyH_done (by kernel_rfl) ?_ _
      go_wp2
      go_ret
      exact ⟨rfl, D11.out.bel⟩
    · (try simp only [List.getElem_toArray, List.getElem_cons_zero, List.getElem_cons_succ])
      go_simp
      refine hK9.out _ _ ((D11.out.blk (.tail _ (.tail _ (.head _)))).strAll HL9.out (by omega)) (fun hHeld9 => ?_)
      clear hK9 K9
      (try simp only [List.getElem_toArray, List.getElem_cons_zero, List.getElem_cons_succ, Act.put, List.setIfInBounds_toArray, List.set_cons_zero, List.set_cons_succ])
      refine wpAnyH_ready (rs := [19]) (by kernel_rfl) (by simp) ?_
      refine AllReadyH.cons rfl (fun K9 hK9 => ?_) AllReadyH.nil
      (try simp only [List.getElem_toArray, List.getElem_cons_zero, List.getElem_cons_succ])
      go_simp
      refine hK9.out _ _ ((D11.out.blk (.tail _ (.tail _ (.head _)))).strAll HL9.out (by omega)) (fun hHeld9 => ?_)
      clear hK9 K9
      (try simp only [List.getElem_toArray, List.getElem_cons_zero, List.getElem_cons_succ, Act.put, List.setIfInBounds_toArray, List.set_cons_zero, List.set_cons_succ])
      refine' wpAnyH_take (i := 23) (v := _) rfl (by kernel_rfl) (by kernel_rfl) (by kernel_rfl) (fun _ _ _ h => h) (Or.inl ⟨by rfl, ?taq29⟩) (by assumption) ?tbq29
      case taq29 =>
        intro wS hSw
        (try dsimp only at hSw)
        go_simp
        (try (with_reducible rfl))
      (try simp only [List.getElem_toArray, List.getElem_cons_zero, List.getElem_cons_succ, Act.put, List.setIfInBounds_toArray, List.set_cons_zero, List.set_cons_succ])
      refine' wpAnyH_take (i := 24) (v := _) rfl (by kernel_rfl) (by kernel_rfl) (by kernel_rfl) (fun _ _ _ h => h) (Or.inl ⟨by rfl, ?taq30⟩) (by assumption) ?tbq30
      case taq30 =>
        intro wS hSw
        (try dsimp only at hSw)
        go_simp
        (try (with_reducible rfl))
      (try simp only [List.getElem_toArray, List.getElem_cons_zero, List.getElem_cons_succ, Act.put, List.setIfInBounds_toArray, List.set_cons_zero, List.set_cons_succ])
      refine' wpAnyH_take (i := 25) (v := _) rfl (by kernel_rfl) (by kernel_rfl) (by kernel_rfl) (fun _ _ _ h => h) (Or.inl ⟨by rfl, ?taq31⟩) (by assumption) ?tbq31
      case taq31 =>
        intro wS hSw
        (try dsimp only at hSw)
        go_simp
        (try (with_reducible rfl))
      (try simp only [List.getElem_toArray, List.getElem_cons_zero, List.getElem_cons_succ, Act.put, List.setIfInBounds_toArray, List.set_cons_zero, List.set_cons_succ])
      refine' wpAnyH_take (i := 26) (v := _) rfl (by kernel_rfl) (by kernel_rfl) (by kernel_rfl) (fun _ _ _ h => h) (Or.inl ⟨by rfl, ?taq32⟩) (by assumption) ?tbq32
      case taq32 =>
        intro wS hSw
        (try dsimp only at hSw)
        go_simp
        (try (with_reducible rfl))
      (try simp only [List.getElem_toArray, List.getElem_cons_zero, List.getElem_cons_succ, Act.put, List.setIfInBounds_toArray, List.set_cons_zero, List.set_cons_succ])
      refine wpAnyH_done (by kernel_rfl) ?_ _
      go_wp2
      go_ret
      exact ⟨rfl, D11.out.bel⟩
end Go.Proofs.Ytcgmgogkfhlgpaa
