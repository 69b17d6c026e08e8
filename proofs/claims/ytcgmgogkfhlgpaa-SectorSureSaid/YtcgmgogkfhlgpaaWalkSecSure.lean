/- The walk of SectorSure. -/
import Derived.Test.YtcgmgogkfhlgpaaAwake5
import Derived.Test.YtcgmgogkfhlgpaaOpen3
namespace Go.Proofs.Ytcgmgogkfhlgpaa
open Go.RowKit
set_option linter.unusedVariables false

theorem byte_of {a : Int} (w : (Lit.int .u8 a).wf = true) : ∃ b : UInt8, a = (b.toNat : Int) := by
  have hb : 0 ≤ a ∧ a ≤ 255 := by simpa [Lit.wf, IntKind.min, IntKind.max, IntKind.signed, IntKind.bits] using w
  refine ⟨UInt8.ofNat a.toNat, ?_⟩
  have : (UInt8.ofNat a.toNat).toNat = a.toNat := by simp; omega
  rw [this]
  omega
theorem elem_u8c : ElemOf Try.prog 22 5 (.int .u8 0) 1 := ⟨Try.underlying22, by kernel_rfl, rfl⟩
theorem Blk.readsPart {w : World} {g n k c : Nat} {t : TypeId} {bs : List UInt8} (h : Blk w g t (bytesV bs)) (o : Nat) (ho : o + k ≤ bs.length) (hc : k ≤ c) (hm : c ≤ 1000000) : Reads w w.heap.size (.slice (some ⟨g, o, none⟩) k c) (bytesV ((bs.drop o).take k)) :=
  ⟨_, _, _, rfl, by rw [length_bytesV, List.length_take, List.length_drop]; omega, hc, by unfold maxLen; omega, fun _ => ⟨g, o, rfl, h.lt, fun j u hu => by
    rw [h.cell]
    rw [← bytesV_take, ← bytesV_drop, List.getElem?_take] at hu
    split at hu
    · rw [List.getElem?_drop] at hu; exact hu
    · cases hu⟩⟩
theorem Blk.strOwn {w : World} {g n cap : Nat} {t : TypeId} {bs : List UInt8} {rest : List Value} (h : Blk w g t (bytesV bs ++ rest)) (hn : bs.length = n) (hc : n ≤ cap) (hm : cap ≤ maxLen) : (convert 22 9 (.slice (some ⟨g, 0, none⟩) n cap)).run Try.prog w = .ok (.string ⟨bs.toArray⟩) w :=
  run_str (B := w.heap.size) ⟨_, _, _, rfl, by rw [length_bytesV, hn], hc, hm, fun _ => ⟨g, 0, rfl, h.lt, fun j u hu => by
    rw [Nat.zero_add, h.cell, List.getElem?_append_left (List.getElem?_eq_some_iff.1 hu).1]
    exact hu⟩⟩
theorem sure_crash (z p q : List UInt8) (l : List UInt8) : ∃ r, (r = p ∨ r = q ∨ r = q.take 32 ++ p.drop 32) ∧ crashI [(1, q)] l [z, p, q] = [z, r, q] := by
  have h : ∀ n, ∃ r, (r = p ∨ r = q ∨ r = q.take 32 ++ p.drop 32) ∧ pickI n 1 q [z, p, q] = [z, r, q] := by
    intro n
    unfold pickI
    split
    · exact ⟨q, .inr (.inl rfl), rfl⟩
    · split
      · exact ⟨_, .inr (.inr rfl), rfl⟩
      · exact ⟨p, .inl rfl, rfl⟩
  cases l with
  | nil => exact h 0
  | cons x l =>
    obtain ⟨r, h1, h2⟩ := h x.toNat
    refine ⟨r, h1, ?_⟩
    rw [crashI, h2]
    cases l <;> rfl
/-- what SectorSure does, plain -/
theorem sure_plain (p q l : List UInt8) (hp : p.length = 64) (hq : q.length = 64) : ∃ (sA sB sC sD : Dk) (r : List UInt8), (Dk.new 3).ops = 0 ∧ sA.ops = 1 ∧ sB.ops = 2 ∧ sC.ops = 3 ∧ (Dk.new 3).write 1 p = (sA, 0) ∧ sA.write 2 q = (sB, 0) ∧ sB.flush = (sC, 0) ∧ sC.write 1 q = (sD, 0) ∧
    (r = p ∨ r = q ∨ r = q.take 32 ++ p.drop 32) ∧ (sD.crash l).read 1 = (r, 0) ∧ (sD.crash l).read 2 = (q, 0) ∧ (sD.crash l).read 0 = (List.replicate 64 0, 0) := by
  have o0 : (Dk.new 3).Ok := Dk.new_ok (by omega)
  have u0 := Dk.up_new 3
  have w1 := Dk.up_write (k := 1) o0 u0 (by simp [Dk.new]) hp
  have o1 : ((Dk.new 3).oper.wrote 1 p).Ok := Dk.wrote_ok o0 (by simp [Dk.new]) hp
  have u1 : ((Dk.new 3).oper.wrote 1 p).up := Dk.up_wrote (Dk.up_oper o0 u0) 1 p
  have w2 := Dk.up_write (k := 2) o1 u1 (by simp [Dk.new, Dk.wrote, Dk.oper]) hq
  have o2 : (((Dk.new 3).oper.wrote 1 p).oper.wrote 2 q).Ok := Dk.wrote_ok o1 (by simp [Dk.new, Dk.wrote, Dk.oper]) hq
  have u2 : (((Dk.new 3).oper.wrote 1 p).oper.wrote 2 q).up := Dk.up_wrote (Dk.up_oper o1 u1) 2 q
  have f := Dk.up_flush o2 u2
  have o3 := Dk.flushed_ok o2
  have u3 : ((((Dk.new 3).oper.wrote 1 p).oper.wrote 2 q).oper.flushed).up := Dk.up_flushed (Dk.up_oper o2 u2)
  have w4 := Dk.up_write (k := 1) o3 u3 (by simp [Dk.new, Dk.wrote, Dk.oper, Dk.flushed]) hq
  obtain ⟨r, hr, hc⟩ := sure_crash (List.replicate 64 0) p q l
  have hcr : ((((((Dk.new 3).oper.wrote 1 p).oper.wrote 2 q).oper.flushed).oper.wrote 1 q).crash l).now = [List.replicate 64 0, r, q] := hc
  have uc := Dk.up_crash (((((Dk.new 3).oper.wrote 1 p).oper.wrote 2 q).oper.flushed).oper.wrote 1 q) l
  have r1 := Dk.up_read (k := 1) uc (by rw [hcr]; simp)
  have r2 := Dk.up_read (k := 2) uc (by rw [hcr]; simp)
  have r0 := Dk.up_read (k := 0) uc (by rw [hcr]; simp)
  rw [hcr] at r1 r2 r0
  exact ⟨_, _, _, _, r, rfl, rfl, rfl, rfl, w1, w2, f, w4, hr, r1, r2, r0⟩
set_option maxHeartbeats 6400000 in
set_option maxRecDepth 100000 in
theorem sectorSure_walk (v0 : Value) (a0 : List UInt8) (v1 : Value) (a1 : List UInt8) (a2 a3 : Int) (v4 : Value) (a4 : List UInt8) (w : World) (o0 : Reads w w.heap.size v0 (bytesV a0) ∧ a0.length ≤ 140737488351232) (o1 : Reads w w.heap.size v1 (bytesV a1) ∧ a1.length ≤ 140737488351232)
    (w2 : (Lit.int .u8 a2).wf = true) (w3 : (Lit.int .u8 a3).wf = true) (o4 : Reads w w.heap.size v4 (bytesV a4) ∧ a4.length ≤ 140737488351232) :
    Calls Try.prog 3 #[v0, v1, .int .u8 a2, .int .u8 a3, v4] w fun en w' => en = .returned (.bool true) ∧ Below w.heap.size w w' := by
  obtain ⟨x, rfl⟩ := byte_of w2
  obtain ⟨y, rfl⟩ := byte_of w3
  obtain ⟨A0, c0, rfl, _, _⟩ := o0.1.form
  obtain ⟨A1, c1, rfl, _, _⟩ := o1.1.form
  obtain ⟨A4, c4, rfl, _, _⟩ := o4.1.form
  have R0 := Lib.hid o0.1
  have R1 := Lib.hid o1.1
  have R4 := Lib.hid o4.1
  obtain ⟨P, hP⟩ : ∃ P, secI a0 x = P := ⟨_, rfl⟩
  obtain ⟨Q, hQ⟩ : ∃ Q, secI a1 y = Q := ⟨_, rfl⟩
  have hPl : P.length = 64 := by rw [← hP]; exact secI_len _ _
  have hQl : Q.length = 64 := by rw [← hQ]; exact secI_len _ _
  obtain ⟨sA, sB, sC, sD, r, e0, e1, e2, e3, e4, e5, e6, e7, hr, e8, e9, e10⟩ := sure_plain P Q a4 hPl hQl
  have E0 := Lib.hid e0
  have E1 := Lib.hid e1
  have E2 := Lib.hid e2
  have E3 := Lib.hid e3
  have E4 := Lib.hid e4
  have E5 := Lib.hid e5
  have E6 := Lib.hid e6
  have E7 := Lib.hid e7
  have E8 := Lib.hid e8
  have E9 := Lib.hid e9
  have E10 := Lib.hid e10
  have HP := Lib.hid hP
  have HQ := Lib.hid hQ
  have HPL := Lib.hid hPl
  have HQL := Lib.hid hQl
  have HR := Lib.hid hr
  have FSu : Hid (∀ (W : World) ds bs (q : List UInt8), DS w W ds bs → q.length = 64 → True) := Lib.hid (fun _ _ _ _ _ _ => trivial)
  generalize hs0 : Dk.new 3 = s0 at E0 E4
  have HS0 := Lib.hid hs0
  obtain ⟨Z, hZ⟩ : ∃ Z : List UInt8, List.replicate 64 0 = Z := ⟨_, rfl⟩
  have HZL : Hid (Z.length = 64) := Lib.hid (by rw [← hZ]; simp)
  rw [hZ] at E10
  have HZ := Lib.hid hZ
  clear o0 o1 o4 w2 w3 hP hQ hPl hQl e0 e1 e2 e3 e4 e5 e6 e7 e8 e9 e10 hr hs0 hZ FSu
  go_enter Try.func3, Try.ntmps3
  go_wp2_with fail
  refine (ds_new (DS.start w) 3 3 (by decide)).mono ?_
  rw [HS0.out]
  rintro en w1 ⟨d, rfl, h⟩
  have D1 := Lib.hid h
  clear h
  go_wp2_with fail
  refine (ds_sector D1.out _ a0 (.inl R0.out) x _ rfl).mono ?_
  rw [HP.out]
  rintro en w2 ⟨g1, rfl, h⟩
  have D2 := Lib.hid h
  clear h
  go_wp2_with fail
  refine (ds_sector D2.out _ a1 (.inl R1.out) y _ rfl).mono ?_
  rw [HQ.out]
  rintro en w3 ⟨g2, rfl, h⟩
  have D3 := Lib.hid h
  clear h
  go_wp2_with fail
  refine (ds_write D3.out (by rw [E0.out]; omega) 1 _ P (.inr ⟨g1, _, 64, rfl, HPL.out, by omega, .tail _ (.head _)⟩)).mono ?_
  rw [E4.out]
  rintro en w4 ⟨rfl, h⟩
  have D4 := Lib.hid h
  clear h
  dsimp only
  go_wp2_with fail
  refine (ds_write D4.out (by rw [E1.out]; omega) 2 _ Q (.inr ⟨g2, _, 64, rfl, HQL.out, by omega, .head _⟩)).mono ?_
  rw [E5.out]
  rintro en w5 ⟨rfl, h⟩
  have D5 := Lib.hid h
  clear h
  dsimp only
  go_wp2_with fail
  refine (ds_flush D5.out (by rw [E2.out]; omega)).mono ?_
  rw [E6.out]
  rintro en w6 ⟨rfl, h⟩
  have D6 := Lib.hid h
  clear h
  dsimp only
  go_wp2_with fail
  refine (ds_write D6.out (by rw [E3.out]; omega) 1 _ Q (.inr ⟨g2, _, 64, rfl, HQL.out, by omega, .head _⟩)).mono ?_
  rw [E7.out]
  rintro en w7 ⟨rfl, h⟩
  have D7 := Lib.hid h
  clear h
  dsimp only
  go_wp2_with fail
  refine (ds_crash D7.out _ a4 (.inl R4.out)).mono ?_
  rintro en w8 ⟨rfl, h⟩
  have D8 := Lib.hid h
  clear h
  go_wp2_with fail
  refine (ds_read D8.out 1 _ E8.out).mono ?_
  rintro en w9 ⟨g3, rfl, hl3, h⟩
  have D9 := Lib.hid h
  have HL3 := Lib.hid hl3
  clear h hl3
  dsimp only
  go_wp2_with fail
  refine (ds_read D9.out 2 _ E9.out).mono ?_
  rintro en wa ⟨g4, rfl, _, h⟩
  have D10 := Lib.hid h
  clear h
  dsimp only
  go_upto_region 8 with fail
  refine wp_region_held_drew (S := (fun _ => True)) (by kernel_rfl) (trivial) (fun hHeld => ?_)
  refine' wpAnyH_take (i := 1) (v := _) rfl (by kernel_rfl) (by kernel_rfl) (by kernel_rfl) (fun _ _ _ h => h) (Or.inl ⟨by rfl, ?taq1⟩) (by assumption) ?tbq1
  case taq1 =>
    intro wS hSw
    (try dsimp only at hSw)
    go_simp
    (try (with_reducible rfl))
  (try simp only [List.getElem_toArray, List.getElem_cons_zero, List.getElem_cons_succ, Act.put, List.setIfInBounds_toArray, List.set_cons_zero, List.set_cons_succ])
  refine' wpAnyH_take (i := 2) (v := _) rfl (by kernel_rfl) (by kernel_rfl) (by kernel_rfl) (fun _ _ _ h => h) (Or.inl ⟨by rfl, ?taq2⟩) (by assumption) ?tbq2
  case taq2 =>
    intro wS hSw
    (try dsimp only at hSw)
    go_simp
    (try (with_reducible rfl))
  (try simp only [List.getElem_toArray, List.getElem_cons_zero, List.getElem_cons_succ, Act.put, List.setIfInBounds_toArray, List.set_cons_zero, List.set_cons_succ])
  refine' wpAnyH_take (i := 4) (v := _) rfl (by kernel_rfl) (by kernel_rfl) (by kernel_rfl) (fun _ _ _ h => h) (Or.inl ⟨by rfl, ?taq3⟩) (by assumption) ?tbq3
  case taq3 =>
    intro wS hSw
    (try dsimp only at hSw)
    go_simp
    (try (with_reducible rfl))
  (try simp only [List.getElem_toArray, List.getElem_cons_zero, List.getElem_cons_succ, Act.put, List.setIfInBounds_toArray, List.set_cons_zero, List.set_cons_succ])
  refine' wpAnyH_take (i := 5) (v := _) rfl (by kernel_rfl) (by kernel_rfl) (by kernel_rfl) (fun _ _ _ h => h) (Or.inl ⟨by rfl, ?taq4⟩) (by assumption) ?tbq4
  case taq4 =>
    intro wS hSw
    (try dsimp only at hSw)
    go_simp
    (try (with_reducible rfl))
  (try simp only [List.getElem_toArray, List.getElem_cons_zero, List.getElem_cons_succ, Act.put, List.setIfInBounds_toArray, List.set_cons_zero, List.set_cons_succ])
  refine wpAnyH_ready (rs := [0]) (by kernel_rfl) (by simp) ?_
  refine AllReadyH.cons rfl (fun K9 hK9 => ?_) AllReadyH.nil
  have hown0 : (wa.drew.alloc (.cells #[] 5)).ownsRow wa.heap.size 5 1 (.slice (some ⟨wa.heap.size, 0, none⟩) 0 0) 0 [] := (Blk.fresh wa.drew 5 []).ownAll (Nat.le_refl _) (by unfold maxLen; omega) rfl
  have hba := (Below.refl wa.heap.size wa).drew.alloc (Nat.le_refl _) (.cells #[] 5)
  have hq1 := ((D10.out.blk (.tail _ (.tail _ (.head _)))).below hba (D10.out.blk (.tail _ (.tail _ (.head _)))).lt).readsPart (n := 64) (k := 32) (c := 64) 0 (by rw [HQL.out]; omega) (by omega) (by omega)
  have hp1 := D10.out.blk (.tail _ (.tail _ (.tail _ (.head _))))
  have HBA := Lib.hid hba
  have HPB := Lib.hid hp1
  clear hba hp1
  (try simp only [List.getElem_toArray, List.getElem_cons_zero, List.getElem_cons_succ])
  go_simp
  refine hK9.out _ _ (trivial) (fun hHeld9 => ?_)
  clear hK9 K9
  (try simp only [List.getElem_toArray, List.getElem_cons_zero, List.getElem_cons_succ, Act.put, List.setIfInBounds_toArray, List.set_cons_zero, List.set_cons_succ])
  refine wpAnyH_ready (rs := [3]) (by kernel_rfl) (by simp) ?_
  refine AllReadyH.cons rfl (fun K9 hK9 => ?_) AllReadyH.nil
  (try simp only [List.getElem_toArray, List.getElem_cons_zero, List.getElem_cons_succ])
  rw [if_pos (by rfl)]
  refine wp_extend elem_u8c (wa.drew.alloc (.cells #[] 5)) _ _ (by rfl) wa.heap.size 0 (.slice (some ⟨wa.heap.size, 0, none⟩) 0 0) [] (by rfl) hown0 _ _ (bytesV ((Q.drop 0).take 32)) (by rfl) hq1 (bytesV_one _) (by rw [length_bytesV, List.length_take]; unfold maxLen; omega) (by rw [length_bytesV, List.length_take]; omega) (by simp) ?_
  intro A5 c5 wb hown5 hgrow5 hfr5
  have hl32 : (bytesV ((Q.drop 0).take 32)).length = 32 := by rw [length_bytesV, List.length_take, List.length_drop, HQL.out]; rfl
  rw [hl32, Nat.zero_add, List.nil_append] at hown5
  rw [hl32, Nat.zero_add] at hfr5
  have hbb : Below wa.heap.size wa wb := HBA.out.grown hgrow5 HBA.out.size (fun k hk => (hown0.lt k hk).1)
  rw [hl32, Nat.zero_add]
  have hp2 := (HPB.out.below hbb HPB.out.lt).readsPart (n := 64) (k := 32) (c := 32) 32 (by rw [HPL.out]; omega) (by omega) (by omega)
  have HBB := Lib.hid hbb
  have hsb := hbb.size
  clear hl32 hgrow5 hq1 hown0 hbb
  refine hK9.out _ _ (trivial) (fun hHeld9 => ?_)
  clear hK9 K9
  (try simp only [List.getElem_toArray, List.getElem_cons_zero, List.getElem_cons_succ, Act.put, List.setIfInBounds_toArray, List.set_cons_zero, List.set_cons_succ])
  refine wpAnyH_ready (rs := [6]) (by kernel_rfl) (by simp) ?_
  refine AllReadyH.cons rfl (fun K9 hK9 => ?_) AllReadyH.nil
  (try simp only [List.getElem_toArray, List.getElem_cons_zero, List.getElem_cons_succ])
  rw [if_pos (by rfl)]
  refine wp_extend elem_u8c wb _ _ (by rfl) wa.heap.size 32 (.slice A5 32 c5) _ (by rfl) hown5 _ _ (bytesV ((P.drop 32).take 32)) (by rfl) hp2 (bytesV_one _) (by rw [length_bytesV, List.length_take]; unfold maxLen; omega) (by rw [length_bytesV, List.length_take]; omega) hsb ?_
  intro A6 c6 wc hown6 hgrow6 hfr6
  have hl32 : (bytesV ((P.drop 32).take 32)).length = 32 := by rw [length_bytesV, List.length_take, List.length_drop, HPL.out]; rfl
  rw [hl32] at hown6 hfr6
  rw [hl32]
  have HBC := Lib.hid (HBB.out.grown hgrow6 hsb (fun k hk => (hown5.lt k hk).1))
  rw [bytesV_append, List.drop_zero, show (P.drop 32).take 32 = P.drop 32 from List.take_of_length_le (by rw [List.length_drop, HPL.out]; omega)] at hown6
  obtain ⟨g5, cap5, rest5, e5', hg5, _, hcap5, hcm5, _, _, hk5⟩ := own_blk hown6 (by omega)
  injection e5' with e5a _ e5c
  subst e5a e5c
  have HK5 := Lib.hid hk5
  clear hl32 hgrow6 hfr6 hfr5 hown6 hown5 hp2 hk5
  refine hK9.out _ _ (trivial) (fun hHeld9 => ?_)
  clear hK9 K9
  (try simp only [List.getElem_toArray, List.getElem_cons_zero, List.getElem_cons_succ, Act.put, List.setIfInBounds_toArray, List.set_cons_zero, List.set_cons_succ])
  refine' wpAnyH_take (i := 7) (v := _) rfl (by kernel_rfl) (by kernel_rfl) (by kernel_rfl) (fun _ _ _ h => h) (Or.inl ⟨by rfl, ?taq5⟩) (by assumption) ?tbq5
  case taq5 =>
    intro wS hSw
    (try dsimp only at hSw)
    go_simp
    (try (with_reducible rfl))
  (try simp only [List.getElem_toArray, List.getElem_cons_zero, List.getElem_cons_succ, Act.put, List.setIfInBounds_toArray, List.set_cons_zero, List.set_cons_succ])
  refine wpAnyH_done (by kernel_rfl) ?_ _
  have D11 := Lib.hid (D10.out.more HBC.out hg5 HK5.out)
  clear HK5 HBC HBA HBB HPB hsb D10
  go_wp2_with fail
  refine (ds_read D11.out 0 _ E10.out).mono ?_
  rintro en wd ⟨g6, rfl, _, h⟩
  have D12 := Lib.hid h
  clear h
  dsimp only
  go_upto_region 10 with fail
  have hh : (Q.take 32 ++ P.drop 32).length = 64 := by rw [List.length_append, List.length_take, List.length_drop, HPL.out, HQL.out]; rfl
  have HHL := Lib.hid hh
  clear hh
  obtain ⟨H, hH⟩ : ∃ H, Q.take 32 ++ P.drop 32 = H := ⟨_, rfl⟩
  rw [hH] at D12 HR HHL
  clear hH D11 D9 D8 D7 D6 D5 D4 D3 D2 D1
  rcases HR.out with hr | hr
  · subst hr
    refine wp_region_held_drew (S := (fun w' => DS w w' [(d, sD.crash a4)] [(g6, 58, bytesV Z), (g5, 5, bytesV H ++ rest5), (g4, 58, bytesV Q), (g3, 58, bytesV r), (g2, 5, bytesV Q), (g1, 5, bytesV r)])) (by kernel_rfl) (D12.out.drew) (fun hHeld => ?_)
    refine' wpAnyH_take (i := 0) (v := _) rfl (by kernel_rfl) (by kernel_rfl) (by kernel_rfl) (fun _ _ _ h => h) (Or.inl ⟨by rfl, ?taq6⟩) (by assumption) ?tbq6
    case taq6 =>
      intro wS hSw
      (try dsimp only at hSw)
      (have q0 := (hSw.blk (.head _)).strAll HZL.out (by omega); have q1 := (hSw.blk (.tail _ (.head _))).strOwn (n := 32 + 32) HHL.out hcap5 hcm5; have q2 := (hSw.blk (.tail _ (.tail _ (.head _)))).strAll HQL.out (by omega); have q3 := (hSw.blk (.tail _ (.tail _ (.tail _ (.head _))))).strAll HL3.out (by omega); have q4 := (hSw.blk (.tail _ (.tail _ (.tail _ (.tail _ (.head _)))))).strAll HQL.out (by omega); have q5 := (hSw.blk (.tail _ (.tail _ (.tail _ (.tail _ (.tail _ (.head _))))))).strAll HPL.out (by omega); clear hSw; go_simp)
      (try (with_reducible rfl))
    (try simp only [List.getElem_toArray, List.getElem_cons_zero, List.getElem_cons_succ, Act.put, List.setIfInBounds_toArray, List.set_cons_zero, List.set_cons_succ])
    refine' wpAnyH_take (i := 1) (v := _) rfl (by kernel_rfl) (by kernel_rfl) (by kernel_rfl) (fun _ _ _ h => h) (Or.inl ⟨by rfl, ?taq7⟩) (by assumption) ?tbq7
    case taq7 =>
      intro wS hSw
      (try dsimp only at hSw)
      (have q0 := (hSw.blk (.head _)).strAll HZL.out (by omega); have q1 := (hSw.blk (.tail _ (.head _))).strOwn (n := 32 + 32) HHL.out hcap5 hcm5; have q2 := (hSw.blk (.tail _ (.tail _ (.head _)))).strAll HQL.out (by omega); have q3 := (hSw.blk (.tail _ (.tail _ (.tail _ (.head _))))).strAll HL3.out (by omega); have q4 := (hSw.blk (.tail _ (.tail _ (.tail _ (.tail _ (.head _)))))).strAll HQL.out (by omega); have q5 := (hSw.blk (.tail _ (.tail _ (.tail _ (.tail _ (.tail _ (.head _))))))).strAll HPL.out (by omega); clear hSw; go_simp)
      (try (with_reducible rfl))
    (try simp only [List.getElem_toArray, List.getElem_cons_zero, List.getElem_cons_succ, Act.put, List.setIfInBounds_toArray, List.set_cons_zero, List.set_cons_succ])
    refine' wpAnyH_take (i := 2) (v := _) rfl (by kernel_rfl) (by kernel_rfl) (by kernel_rfl) (fun _ _ _ h => h) (Or.inl ⟨by rfl, ?taq8⟩) (by assumption) ?tbq8
    case taq8 =>
      intro wS hSw
      (try dsimp only at hSw)
      (have q0 := (hSw.blk (.head _)).strAll HZL.out (by omega); have q1 := (hSw.blk (.tail _ (.head _))).strOwn (n := 32 + 32) HHL.out hcap5 hcm5; have q2 := (hSw.blk (.tail _ (.tail _ (.head _)))).strAll HQL.out (by omega); have q3 := (hSw.blk (.tail _ (.tail _ (.tail _ (.head _))))).strAll HL3.out (by omega); have q4 := (hSw.blk (.tail _ (.tail _ (.tail _ (.tail _ (.head _)))))).strAll HQL.out (by omega); have q5 := (hSw.blk (.tail _ (.tail _ (.tail _ (.tail _ (.tail _ (.head _))))))).strAll HPL.out (by omega); clear hSw; go_simp)
      (try (with_reducible rfl))
    (try simp only [List.getElem_toArray, List.getElem_cons_zero, List.getElem_cons_succ, Act.put, List.setIfInBounds_toArray, List.set_cons_zero, List.set_cons_succ])
    refine' wpAnyH_take (i := 3) (v := _) rfl (by kernel_rfl) (by kernel_rfl) (by kernel_rfl) (fun _ _ _ h => h) (Or.inl ⟨by rfl, ?taq9⟩) (by assumption) ?tbq9
    case taq9 =>
      intro wS hSw
      (try dsimp only at hSw)
      (have q0 := (hSw.blk (.head _)).strAll HZL.out (by omega); have q1 := (hSw.blk (.tail _ (.head _))).strOwn (n := 32 + 32) HHL.out hcap5 hcm5; have q2 := (hSw.blk (.tail _ (.tail _ (.head _)))).strAll HQL.out (by omega); have q3 := (hSw.blk (.tail _ (.tail _ (.tail _ (.head _))))).strAll HL3.out (by omega); have q4 := (hSw.blk (.tail _ (.tail _ (.tail _ (.tail _ (.head _)))))).strAll HQL.out (by omega); have q5 := (hSw.blk (.tail _ (.tail _ (.tail _ (.tail _ (.tail _ (.head _))))))).strAll HPL.out (by omega); clear hSw; go_simp)
      (try (with_reducible rfl))
    (try simp only [List.getElem_toArray, List.getElem_cons_zero, List.getElem_cons_succ, Act.put, List.setIfInBounds_toArray, List.set_cons_zero, List.set_cons_succ])
    refine' wpAnyH_take (i := 4) (v := _) rfl (by kernel_rfl) (by kernel_rfl) (by kernel_rfl) (fun _ _ _ h => h) (Or.inl ⟨by rfl, ?taq10⟩) (by assumption) ?tbq10
    case taq10 =>
      intro wS hSw
      (try dsimp only at hSw)
      (have q0 := (hSw.blk (.head _)).strAll HZL.out (by omega); have q1 := (hSw.blk (.tail _ (.head _))).strOwn (n := 32 + 32) HHL.out hcap5 hcm5; have q2 := (hSw.blk (.tail _ (.tail _ (.head _)))).strAll HQL.out (by omega); have q3 := (hSw.blk (.tail _ (.tail _ (.tail _ (.head _))))).strAll HL3.out (by omega); have q4 := (hSw.blk (.tail _ (.tail _ (.tail _ (.tail _ (.head _)))))).strAll HQL.out (by omega); have q5 := (hSw.blk (.tail _ (.tail _ (.tail _ (.tail _ (.tail _ (.head _))))))).strAll HPL.out (by omega); clear hSw; go_simp)
      (try (with_reducible rfl))
    (try simp only [List.getElem_toArray, List.getElem_cons_zero, List.getElem_cons_succ, Act.put, List.setIfInBounds_toArray, List.set_cons_zero, List.set_cons_succ])
    refine' wpAnyH_take (i := 5) (v := _) rfl (by kernel_rfl) (by kernel_rfl) (by kernel_rfl) (fun _ _ _ h => h) (Or.inl ⟨by rfl, ?taq11⟩) (by assumption) ?tbq11
    case taq11 =>
      intro wS hSw
      (try dsimp only at hSw)
      (have q0 := (hSw.blk (.head _)).strAll HZL.out (by omega); have q1 := (hSw.blk (.tail _ (.head _))).strOwn (n := 32 + 32) HHL.out hcap5 hcm5; have q2 := (hSw.blk (.tail _ (.tail _ (.head _)))).strAll HQL.out (by omega); have q3 := (hSw.blk (.tail _ (.tail _ (.tail _ (.head _))))).strAll HL3.out (by omega); have q4 := (hSw.blk (.tail _ (.tail _ (.tail _ (.tail _ (.head _)))))).strAll HQL.out (by omega); have q5 := (hSw.blk (.tail _ (.tail _ (.tail _ (.tail _ (.tail _ (.head _))))))).strAll HPL.out (by omega); clear hSw; go_simp)
      (try (with_reducible rfl))
    (try simp only [List.getElem_toArray, List.getElem_cons_zero, List.getElem_cons_succ, Act.put, List.setIfInBounds_toArray, List.set_cons_zero, List.set_cons_succ])
    refine' wpAnyH_take (i := 6) (v := _) rfl (by kernel_rfl) (by kernel_rfl) (by kernel_rfl) (fun _ _ _ h => h) (Or.inl ⟨by rfl, ?taq12⟩) (by assumption) ?tbq12
    case taq12 =>
      intro wS hSw
      (try dsimp only at hSw)
      (have q0 := (hSw.blk (.head _)).strAll HZL.out (by omega); have q1 := (hSw.blk (.tail _ (.head _))).strOwn (n := 32 + 32) HHL.out hcap5 hcm5; have q2 := (hSw.blk (.tail _ (.tail _ (.head _)))).strAll HQL.out (by omega); have q3 := (hSw.blk (.tail _ (.tail _ (.tail _ (.head _))))).strAll HL3.out (by omega); have q4 := (hSw.blk (.tail _ (.tail _ (.tail _ (.tail _ (.head _)))))).strAll HQL.out (by omega); have q5 := (hSw.blk (.tail _ (.tail _ (.tail _ (.tail _ (.tail _ (.head _))))))).strAll HPL.out (by omega); clear hSw; go_simp)
      (try (with_reducible rfl))
    (try simp only [List.getElem_toArray, List.getElem_cons_zero, List.getElem_cons_succ, Act.put, List.setIfInBounds_toArray, List.set_cons_zero, List.set_cons_succ])
    refine' wpAnyH_take (i := 7) (v := _) rfl (by kernel_rfl) (by kernel_rfl) (by kernel_rfl) (fun _ _ _ h => h) (Or.inl ⟨by rfl, ?taq13⟩) (by assumption) ?tbq13
    case taq13 =>
      intro wS hSw
      (try dsimp only at hSw)
      (have q0 := (hSw.blk (.head _)).strAll HZL.out (by omega); have q1 := (hSw.blk (.tail _ (.head _))).strOwn (n := 32 + 32) HHL.out hcap5 hcm5; have q2 := (hSw.blk (.tail _ (.tail _ (.head _)))).strAll HQL.out (by omega); have q3 := (hSw.blk (.tail _ (.tail _ (.tail _ (.head _))))).strAll HL3.out (by omega); have q4 := (hSw.blk (.tail _ (.tail _ (.tail _ (.tail _ (.head _)))))).strAll HQL.out (by omega); have q5 := (hSw.blk (.tail _ (.tail _ (.tail _ (.tail _ (.tail _ (.head _))))))).strAll HPL.out (by omega); clear hSw; go_simp)
      (try (with_reducible rfl))
    (try simp only [List.getElem_toArray, List.getElem_cons_zero, List.getElem_cons_succ, Act.put, List.setIfInBounds_toArray, List.set_cons_zero, List.set_cons_succ])
    refine' wpAnyH_take (i := 8) (v := _) rfl (by kernel_rfl) (by kernel_rfl) (by kernel_rfl) (fun _ _ _ h => h) (Or.inl ⟨by rfl, ?taq14⟩) (by assumption) ?tbq14
    case taq14 =>
      intro wS hSw
      (try dsimp only at hSw)
      (have q0 := (hSw.blk (.head _)).strAll HZL.out (by omega); have q1 := (hSw.blk (.tail _ (.head _))).strOwn (n := 32 + 32) HHL.out hcap5 hcm5; have q2 := (hSw.blk (.tail _ (.tail _ (.head _)))).strAll HQL.out (by omega); have q3 := (hSw.blk (.tail _ (.tail _ (.tail _ (.head _))))).strAll HL3.out (by omega); have q4 := (hSw.blk (.tail _ (.tail _ (.tail _ (.tail _ (.head _)))))).strAll HQL.out (by omega); have q5 := (hSw.blk (.tail _ (.tail _ (.tail _ (.tail _ (.tail _ (.head _))))))).strAll HPL.out (by omega); clear hSw; go_simp)
      (try (with_reducible rfl))
    (try simp only [List.getElem_toArray, List.getElem_cons_zero, List.getElem_cons_succ, Act.put, List.setIfInBounds_toArray, List.set_cons_zero, List.set_cons_succ])
    refine' wpAnyH_take (i := 9) (v := _) rfl (by kernel_rfl) (by kernel_rfl) (by kernel_rfl) (fun _ _ _ h => h) (Or.inl ⟨by rfl, ?taq15⟩) (by assumption) ?tbq15
    case taq15 =>
      intro wS hSw
      (try dsimp only at hSw)
      (have q0 := (hSw.blk (.head _)).strAll HZL.out (by omega); have q1 := (hSw.blk (.tail _ (.head _))).strOwn (n := 32 + 32) HHL.out hcap5 hcm5; have q2 := (hSw.blk (.tail _ (.tail _ (.head _)))).strAll HQL.out (by omega); have q3 := (hSw.blk (.tail _ (.tail _ (.tail _ (.head _))))).strAll HL3.out (by omega); have q4 := (hSw.blk (.tail _ (.tail _ (.tail _ (.tail _ (.head _)))))).strAll HQL.out (by omega); have q5 := (hSw.blk (.tail _ (.tail _ (.tail _ (.tail _ (.tail _ (.head _))))))).strAll HPL.out (by omega); clear hSw; go_simp)
      (try (with_reducible rfl))
    (try simp only [List.getElem_toArray, List.getElem_cons_zero, List.getElem_cons_succ, Act.put, List.setIfInBounds_toArray, List.set_cons_zero, List.set_cons_succ])
    refine' wpAnyH_take (i := 10) (v := _) rfl (by kernel_rfl) (by kernel_rfl) (by kernel_rfl) (fun _ _ _ h => h) (Or.inl ⟨by rfl, ?taq16⟩) (by assumption) ?tbq16
    case taq16 =>
      intro wS hSw
      (try dsimp only at hSw)
      (have q0 := (hSw.blk (.head _)).strAll HZL.out (by omega); have q1 := (hSw.blk (.tail _ (.head _))).strOwn (n := 32 + 32) HHL.out hcap5 hcm5; have q2 := (hSw.blk (.tail _ (.tail _ (.head _)))).strAll HQL.out (by omega); have q3 := (hSw.blk (.tail _ (.tail _ (.tail _ (.head _))))).strAll HL3.out (by omega); have q4 := (hSw.blk (.tail _ (.tail _ (.tail _ (.tail _ (.head _)))))).strAll HQL.out (by omega); have q5 := (hSw.blk (.tail _ (.tail _ (.tail _ (.tail _ (.tail _ (.head _))))))).strAll HPL.out (by omega); clear hSw; go_simp)
      (try (with_reducible rfl))
    (try simp only [List.getElem_toArray, List.getElem_cons_zero, List.getElem_cons_succ, Act.put, List.setIfInBounds_toArray, List.set_cons_zero, List.set_cons_succ])
    refine' wpAnyH_take (i := 11) (v := _) rfl (by kernel_rfl) (by kernel_rfl) (by kernel_rfl) (fun _ _ _ h => h) (Or.inl ⟨by rfl, ?taq17⟩) (by assumption) ?tbq17
    case taq17 =>
      intro wS hSw
      (try dsimp only at hSw)
      (have q0 := (hSw.blk (.head _)).strAll HZL.out (by omega); have q1 := (hSw.blk (.tail _ (.head _))).strOwn (n := 32 + 32) HHL.out hcap5 hcm5; have q2 := (hSw.blk (.tail _ (.tail _ (.head _)))).strAll HQL.out (by omega); have q3 := (hSw.blk (.tail _ (.tail _ (.tail _ (.head _))))).strAll HL3.out (by omega); have q4 := (hSw.blk (.tail _ (.tail _ (.tail _ (.tail _ (.head _)))))).strAll HQL.out (by omega); have q5 := (hSw.blk (.tail _ (.tail _ (.tail _ (.tail _ (.tail _ (.head _))))))).strAll HPL.out (by omega); clear hSw; go_simp)
      (try (with_reducible rfl))
    (try simp only [List.getElem_toArray, List.getElem_cons_zero, List.getElem_cons_succ, Act.put, List.setIfInBounds_toArray, List.set_cons_zero, List.set_cons_succ])
    refine' wpAnyH_take (i := 12) (v := _) rfl (by kernel_rfl) (by kernel_rfl) (by kernel_rfl) (fun _ _ _ h => h) (Or.inl ⟨by rfl, ?taq18⟩) (by assumption) ?tbq18
    case taq18 =>
      intro wS hSw
      (try dsimp only at hSw)
      (have q0 := (hSw.blk (.head _)).strAll HZL.out (by omega); have q1 := (hSw.blk (.tail _ (.head _))).strOwn (n := 32 + 32) HHL.out hcap5 hcm5; have q2 := (hSw.blk (.tail _ (.tail _ (.head _)))).strAll HQL.out (by omega); have q3 := (hSw.blk (.tail _ (.tail _ (.tail _ (.head _))))).strAll HL3.out (by omega); have q4 := (hSw.blk (.tail _ (.tail _ (.tail _ (.tail _ (.head _)))))).strAll HQL.out (by omega); have q5 := (hSw.blk (.tail _ (.tail _ (.tail _ (.tail _ (.tail _ (.head _))))))).strAll HPL.out (by omega); clear hSw; go_simp)
      (try (with_reducible rfl))
    (try simp only [List.getElem_toArray, List.getElem_cons_zero, List.getElem_cons_succ, Act.put, List.setIfInBounds_toArray, List.set_cons_zero, List.set_cons_succ])
    refine' wpAnyH_take (i := 13) (v := _) rfl (by kernel_rfl) (by kernel_rfl) (by kernel_rfl) (fun _ _ _ h => h) (Or.inl ⟨by rfl, ?taq19⟩) (by assumption) ?tbq19
    case taq19 =>
      intro wS hSw
      (try dsimp only at hSw)
      (have q0 := (hSw.blk (.head _)).strAll HZL.out (by omega); have q1 := (hSw.blk (.tail _ (.head _))).strOwn (n := 32 + 32) HHL.out hcap5 hcm5; have q2 := (hSw.blk (.tail _ (.tail _ (.head _)))).strAll HQL.out (by omega); have q3 := (hSw.blk (.tail _ (.tail _ (.tail _ (.head _))))).strAll HL3.out (by omega); have q4 := (hSw.blk (.tail _ (.tail _ (.tail _ (.tail _ (.head _)))))).strAll HQL.out (by omega); have q5 := (hSw.blk (.tail _ (.tail _ (.tail _ (.tail _ (.tail _ (.head _))))))).strAll HPL.out (by omega); clear hSw; go_simp)
      (try (with_reducible rfl))
    (try simp only [List.getElem_toArray, List.getElem_cons_zero, List.getElem_cons_succ, Act.put, List.setIfInBounds_toArray, List.set_cons_zero, List.set_cons_succ])
    refine' wpAnyH_take (i := 14) (v := _) rfl (by kernel_rfl) (by kernel_rfl) (by kernel_rfl) (fun _ _ _ h => h) (Or.inl ⟨by rfl, ?taq20⟩) (by assumption) ?tbq20
    case taq20 =>
      intro wS hSw
      (try dsimp only at hSw)
      (have q0 := (hSw.blk (.head _)).strAll HZL.out (by omega); have q1 := (hSw.blk (.tail _ (.head _))).strOwn (n := 32 + 32) HHL.out hcap5 hcm5; have q2 := (hSw.blk (.tail _ (.tail _ (.head _)))).strAll HQL.out (by omega); have q3 := (hSw.blk (.tail _ (.tail _ (.tail _ (.head _))))).strAll HL3.out (by omega); have q4 := (hSw.blk (.tail _ (.tail _ (.tail _ (.tail _ (.head _)))))).strAll HQL.out (by omega); have q5 := (hSw.blk (.tail _ (.tail _ (.tail _ (.tail _ (.tail _ (.head _))))))).strAll HPL.out (by omega); clear hSw; go_simp)
      (try (with_reducible rfl))
    (try simp only [List.getElem_toArray, List.getElem_cons_zero, List.getElem_cons_succ, Act.put, List.setIfInBounds_toArray, List.set_cons_zero, List.set_cons_succ])
    refine' wpAnyH_take (i := 15) (v := _) rfl (by kernel_rfl) (by kernel_rfl) (by kernel_rfl) (fun _ _ _ h => h) (Or.inl ⟨by rfl, ?taq21⟩) (by assumption) ?tbq21
    case taq21 =>
      intro wS hSw
      (try dsimp only at hSw)
      (have q0 := (hSw.blk (.head _)).strAll HZL.out (by omega); have q1 := (hSw.blk (.tail _ (.head _))).strOwn (n := 32 + 32) HHL.out hcap5 hcm5; have q2 := (hSw.blk (.tail _ (.tail _ (.head _)))).strAll HQL.out (by omega); have q3 := (hSw.blk (.tail _ (.tail _ (.tail _ (.head _))))).strAll HL3.out (by omega); have q4 := (hSw.blk (.tail _ (.tail _ (.tail _ (.tail _ (.head _)))))).strAll HQL.out (by omega); have q5 := (hSw.blk (.tail _ (.tail _ (.tail _ (.tail _ (.tail _ (.head _))))))).strAll HPL.out (by omega); clear hSw; go_simp)
      (try (with_reducible rfl))
    (try simp only [List.getElem_toArray, List.getElem_cons_zero, List.getElem_cons_succ, Act.put, List.setIfInBounds_toArray, List.set_cons_zero, List.set_cons_succ])
    refine' wpAnyH_take (i := 16) (v := _) rfl (by kernel_rfl) (by kernel_rfl) (by kernel_rfl) (fun _ _ _ h => h) (Or.inl ⟨by rfl, ?taq22⟩) (by assumption) ?tbq22
    case taq22 =>
      intro wS hSw
      (try dsimp only at hSw)
      (have q0 := (hSw.blk (.head _)).strAll HZL.out (by omega); have q1 := (hSw.blk (.tail _ (.head _))).strOwn (n := 32 + 32) HHL.out hcap5 hcm5; have q2 := (hSw.blk (.tail _ (.tail _ (.head _)))).strAll HQL.out (by omega); have q3 := (hSw.blk (.tail _ (.tail _ (.tail _ (.head _))))).strAll HL3.out (by omega); have q4 := (hSw.blk (.tail _ (.tail _ (.tail _ (.tail _ (.head _)))))).strAll HQL.out (by omega); have q5 := (hSw.blk (.tail _ (.tail _ (.tail _ (.tail _ (.tail _ (.head _))))))).strAll HPL.out (by omega); clear hSw; go_simp)
      (try (with_reducible rfl))
    (try simp only [List.getElem_toArray, List.getElem_cons_zero, List.getElem_cons_succ, Act.put, List.setIfInBounds_toArray, List.set_cons_zero, List.set_cons_succ])
    refine' wpAnyH_take (i := 17) (v := _) rfl (by kernel_rfl) (by kernel_rfl) (by kernel_rfl) (fun _ _ _ h => h) (Or.inl ⟨by rfl, ?taq23⟩) (by assumption) ?tbq23
    case taq23 =>
      intro wS hSw
      (try dsimp only at hSw)
      (have q0 := (hSw.blk (.head _)).strAll HZL.out (by omega); have q1 := (hSw.blk (.tail _ (.head _))).strOwn (n := 32 + 32) HHL.out hcap5 hcm5; have q2 := (hSw.blk (.tail _ (.tail _ (.head _)))).strAll HQL.out (by omega); have q3 := (hSw.blk (.tail _ (.tail _ (.tail _ (.head _))))).strAll HL3.out (by omega); have q4 := (hSw.blk (.tail _ (.tail _ (.tail _ (.tail _ (.head _)))))).strAll HQL.out (by omega); have q5 := (hSw.blk (.tail _ (.tail _ (.tail _ (.tail _ (.tail _ (.head _))))))).strAll HPL.out (by omega); clear hSw; go_simp)
      (try (with_reducible rfl))
    (try simp only [List.getElem_toArray, List.getElem_cons_zero, List.getElem_cons_succ, Act.put, List.setIfInBounds_toArray, List.set_cons_zero, List.set_cons_succ])
    refine' wpAnyH_take (i := 18) (v := _) rfl (by kernel_rfl) (by kernel_rfl) (by kernel_rfl) (fun _ _ _ h => h) (Or.inl ⟨by rfl, ?taq24⟩) (by assumption) ?tbq24
    case taq24 =>
      intro wS hSw
      (try dsimp only at hSw)
      (have q0 := (hSw.blk (.head _)).strAll HZL.out (by omega); have q1 := (hSw.blk (.tail _ (.head _))).strOwn (n := 32 + 32) HHL.out hcap5 hcm5; have q2 := (hSw.blk (.tail _ (.tail _ (.head _)))).strAll HQL.out (by omega); have q3 := (hSw.blk (.tail _ (.tail _ (.tail _ (.head _))))).strAll HL3.out (by omega); have q4 := (hSw.blk (.tail _ (.tail _ (.tail _ (.tail _ (.head _)))))).strAll HQL.out (by omega); have q5 := (hSw.blk (.tail _ (.tail _ (.tail _ (.tail _ (.tail _ (.head _))))))).strAll HPL.out (by omega); clear hSw; go_simp)
      (try (with_reducible rfl))
    (try simp only [List.getElem_toArray, List.getElem_cons_zero, List.getElem_cons_succ, Act.put, List.setIfInBounds_toArray, List.set_cons_zero, List.set_cons_succ])
    refine' wpAnyH_take (i := 19) (v := _) rfl (by kernel_rfl) (by kernel_rfl) (by kernel_rfl) (fun _ _ _ h => h) (Or.inl ⟨by rfl, ?taq25⟩) (by assumption) ?tbq25
    case taq25 =>
      intro wS hSw
      (try dsimp only at hSw)
      (have q0 := (hSw.blk (.head _)).strAll HZL.out (by omega); have q1 := (hSw.blk (.tail _ (.head _))).strOwn (n := 32 + 32) HHL.out hcap5 hcm5; have q2 := (hSw.blk (.tail _ (.tail _ (.head _)))).strAll HQL.out (by omega); have q3 := (hSw.blk (.tail _ (.tail _ (.tail _ (.head _))))).strAll HL3.out (by omega); have q4 := (hSw.blk (.tail _ (.tail _ (.tail _ (.tail _ (.head _)))))).strAll HQL.out (by omega); have q5 := (hSw.blk (.tail _ (.tail _ (.tail _ (.tail _ (.tail _ (.head _))))))).strAll HPL.out (by omega); clear hSw; go_simp)
      (try (with_reducible rfl))
    (try simp only [List.getElem_toArray, List.getElem_cons_zero, List.getElem_cons_succ, Act.put, List.setIfInBounds_toArray, List.set_cons_zero, List.set_cons_succ])
    refine' wpAnyH_take (i := 20) (v := _) rfl (by kernel_rfl) (by kernel_rfl) (by kernel_rfl) (fun _ _ _ h => h) (Or.inl ⟨by rfl, ?taq26⟩) (by assumption) ?tbq26
    case taq26 =>
      intro wS hSw
      (try dsimp only at hSw)
      (have q0 := (hSw.blk (.head _)).strAll HZL.out (by omega); have q1 := (hSw.blk (.tail _ (.head _))).strOwn (n := 32 + 32) HHL.out hcap5 hcm5; have q2 := (hSw.blk (.tail _ (.tail _ (.head _)))).strAll HQL.out (by omega); have q3 := (hSw.blk (.tail _ (.tail _ (.tail _ (.head _))))).strAll HL3.out (by omega); have q4 := (hSw.blk (.tail _ (.tail _ (.tail _ (.tail _ (.head _)))))).strAll HQL.out (by omega); have q5 := (hSw.blk (.tail _ (.tail _ (.tail _ (.tail _ (.tail _ (.head _))))))).strAll HPL.out (by omega); clear hSw; go_simp)
      (try (with_reducible rfl))
    (try simp only [List.getElem_toArray, List.getElem_cons_zero, List.getElem_cons_succ, Act.put, List.setIfInBounds_toArray, List.set_cons_zero, List.set_cons_succ])
    refine' wpAnyH_take (i := 21) (v := _) rfl (by kernel_rfl) (by kernel_rfl) (by kernel_rfl) (fun _ _ _ h => h) (Or.inl ⟨by rfl, ?taq27⟩) (by assumption) ?tbq27
    case taq27 =>
      intro wS hSw
      (try dsimp only at hSw)
      (have q0 := (hSw.blk (.head _)).strAll HZL.out (by omega); have q1 := (hSw.blk (.tail _ (.head _))).strOwn (n := 32 + 32) HHL.out hcap5 hcm5; have q2 := (hSw.blk (.tail _ (.tail _ (.head _)))).strAll HQL.out (by omega); have q3 := (hSw.blk (.tail _ (.tail _ (.tail _ (.head _))))).strAll HL3.out (by omega); have q4 := (hSw.blk (.tail _ (.tail _ (.tail _ (.tail _ (.head _)))))).strAll HQL.out (by omega); have q5 := (hSw.blk (.tail _ (.tail _ (.tail _ (.tail _ (.tail _ (.head _))))))).strAll HPL.out (by omega); clear hSw; go_simp)
      (try (with_reducible rfl))
    (try simp only [List.getElem_toArray, List.getElem_cons_zero, List.getElem_cons_succ, Act.put, List.setIfInBounds_toArray, List.set_cons_zero, List.set_cons_succ])
    refine' wpAnyH_take (i := 22) (v := _) rfl (by kernel_rfl) (by kernel_rfl) (by kernel_rfl) (fun _ _ _ h => h) (Or.inl ⟨by rfl, ?taq28⟩) (by assumption) ?tbq28
    case taq28 =>
      intro wS hSw
      (try dsimp only at hSw)
      (have q0 := (hSw.blk (.head _)).strAll HZL.out (by omega); have q1 := (hSw.blk (.tail _ (.head _))).strOwn (n := 32 + 32) HHL.out hcap5 hcm5; have q2 := (hSw.blk (.tail _ (.tail _ (.head _)))).strAll HQL.out (by omega); have q3 := (hSw.blk (.tail _ (.tail _ (.tail _ (.head _))))).strAll HL3.out (by omega); have q4 := (hSw.blk (.tail _ (.tail _ (.tail _ (.tail _ (.head _)))))).strAll HQL.out (by omega); have q5 := (hSw.blk (.tail _ (.tail _ (.tail _ (.tail _ (.tail _ (.head _))))))).strAll HPL.out (by omega); clear hSw; go_simp)
      (try (with_reducible rfl))
    (try simp only [List.getElem_toArray, List.getElem_cons_zero, List.getElem_cons_succ, Act.put, List.setIfInBounds_toArray, List.set_cons_zero, List.set_cons_succ])
    refine' wpAnyH_take (i := 23) (v := _) rfl (by kernel_rfl) (by kernel_rfl) (by kernel_rfl) (fun _ _ _ h => h) (Or.inl ⟨by rfl, ?taq29⟩) (by assumption) ?tbq29
    case taq29 =>
      intro wS hSw
      (try dsimp only at hSw)
      (have q0 := (hSw.blk (.head _)).strAll HZL.out (by omega); have q1 := (hSw.blk (.tail _ (.head _))).strOwn (n := 32 + 32) HHL.out hcap5 hcm5; have q2 := (hSw.blk (.tail _ (.tail _ (.head _)))).strAll HQL.out (by omega); have q3 := (hSw.blk (.tail _ (.tail _ (.tail _ (.head _))))).strAll HL3.out (by omega); have q4 := (hSw.blk (.tail _ (.tail _ (.tail _ (.tail _ (.head _)))))).strAll HQL.out (by omega); have q5 := (hSw.blk (.tail _ (.tail _ (.tail _ (.tail _ (.tail _ (.head _))))))).strAll HPL.out (by omega); clear hSw; go_simp)
      (try (with_reducible rfl))
    (try simp only [List.getElem_toArray, List.getElem_cons_zero, List.getElem_cons_succ, Act.put, List.setIfInBounds_toArray, List.set_cons_zero, List.set_cons_succ])
    refine' wpAnyH_take (i := 24) (v := _) rfl (by kernel_rfl) (by kernel_rfl) (by kernel_rfl) (fun _ _ _ h => h) (Or.inr ⟨by rfl, rfl⟩) (by assumption) ?tbq30
    (try simp only [List.getElem_toArray, List.getElem_cons_zero, List.getElem_cons_succ, Act.put, List.setIfInBounds_toArray, List.set_cons_zero, List.set_cons_succ])
    refine' wpAnyH_take (i := 25) (v := _) rfl (by kernel_rfl) (by kernel_rfl) (by kernel_rfl) (fun _ _ _ h => h) (Or.inr ⟨by rfl, rfl⟩) (by assumption) ?tbq31
    (try simp only [List.getElem_toArray, List.getElem_cons_zero, List.getElem_cons_succ, Act.put, List.setIfInBounds_toArray, List.set_cons_zero, List.set_cons_succ])
    refine' wpAnyH_take (i := 26) (v := _) rfl (by kernel_rfl) (by kernel_rfl) (by kernel_rfl) (fun _ _ _ h => h) (Or.inr ⟨by rfl, rfl⟩) (by assumption) ?tbq32
    (try simp only [List.getElem_toArray, List.getElem_cons_zero, List.getElem_cons_succ, Act.put, List.setIfInBounds_toArray, List.set_cons_zero, List.set_cons_succ])
    refine' wpAnyH_take (i := 27) (v := _) rfl (by kernel_rfl) (by kernel_rfl) (by kernel_rfl) (fun _ _ _ h => h) (Or.inr ⟨by rfl, rfl⟩) (by assumption) ?tbq33
    (try simp only [List.getElem_toArray, List.getElem_cons_zero, List.getElem_cons_succ, Act.put, List.setIfInBounds_toArray, List.set_cons_zero, List.set_cons_succ])
    refine' wpAnyH_take (i := 28) (v := _) rfl (by kernel_rfl) (by kernel_rfl) (by kernel_rfl) (fun _ _ _ h => h) (Or.inr ⟨by rfl, rfl⟩) (by assumption) ?tbq34
    (try simp only [List.getElem_toArray, List.getElem_cons_zero, List.getElem_cons_succ, Act.put, List.setIfInBounds_toArray, List.set_cons_zero, List.set_cons_succ])
    refine' wpAnyH_take (i := 29) (v := _) rfl (by kernel_rfl) (by kernel_rfl) (by kernel_rfl) (fun _ _ _ h => h) (Or.inl ⟨by rfl, ?taq35⟩) (by assumption) ?tbq35
    case taq35 =>
      intro wS hSw
      (try dsimp only at hSw)
      (have q0 := (hSw.blk (.head _)).strAll HZL.out (by omega); have q1 := (hSw.blk (.tail _ (.head _))).strOwn (n := 32 + 32) HHL.out hcap5 hcm5; have q2 := (hSw.blk (.tail _ (.tail _ (.head _)))).strAll HQL.out (by omega); have q3 := (hSw.blk (.tail _ (.tail _ (.tail _ (.head _))))).strAll HL3.out (by omega); have q4 := (hSw.blk (.tail _ (.tail _ (.tail _ (.tail _ (.head _)))))).strAll HQL.out (by omega); have q5 := (hSw.blk (.tail _ (.tail _ (.tail _ (.tail _ (.tail _ (.head _))))))).strAll HPL.out (by omega); clear hSw; go_simp)
      (try (with_reducible rfl))
    (try simp only [List.getElem_toArray, List.getElem_cons_zero, List.getElem_cons_succ, Act.put, List.setIfInBounds_toArray, List.set_cons_zero, List.set_cons_succ])
    refine' wpAnyH_take (i := 30) (v := _) rfl (by kernel_rfl) (by kernel_rfl) (by kernel_rfl) (fun _ _ _ h => h) (Or.inl ⟨by rfl, ?taq36⟩) (by assumption) ?tbq36
    case taq36 =>
      intro wS hSw
      (try dsimp only at hSw)
      (have q0 := (hSw.blk (.head _)).strAll HZL.out (by omega); have q1 := (hSw.blk (.tail _ (.head _))).strOwn (n := 32 + 32) HHL.out hcap5 hcm5; have q2 := (hSw.blk (.tail _ (.tail _ (.head _)))).strAll HQL.out (by omega); have q3 := (hSw.blk (.tail _ (.tail _ (.tail _ (.head _))))).strAll HL3.out (by omega); have q4 := (hSw.blk (.tail _ (.tail _ (.tail _ (.tail _ (.head _)))))).strAll HQL.out (by omega); have q5 := (hSw.blk (.tail _ (.tail _ (.tail _ (.tail _ (.tail _ (.head _))))))).strAll HPL.out (by omega); clear hSw; go_simp)
      (try (with_reducible rfl))
    (try simp only [List.getElem_toArray, List.getElem_cons_zero, List.getElem_cons_succ, Act.put, List.setIfInBounds_toArray, List.set_cons_zero, List.set_cons_succ])
    refine' wpAnyH_take (i := 31) (v := _) rfl (by kernel_rfl) (by kernel_rfl) (by kernel_rfl) (fun _ _ _ h => h) (Or.inr ⟨by rfl, rfl⟩) (by assumption) ?tbq37
    (try simp only [List.getElem_toArray, List.getElem_cons_zero, List.getElem_cons_succ, Act.put, List.setIfInBounds_toArray, List.set_cons_zero, List.set_cons_succ])
    refine' wpAnyH_take (i := 32) (v := _) rfl (by kernel_rfl) (by kernel_rfl) (by kernel_rfl) (fun _ _ _ h => h) (Or.inr ⟨by rfl, rfl⟩) (by assumption) ?tbq38
    (try simp only [List.getElem_toArray, List.getElem_cons_zero, List.getElem_cons_succ, Act.put, List.setIfInBounds_toArray, List.set_cons_zero, List.set_cons_succ])
    refine' wpAnyH_take (i := 33) (v := _) rfl (by kernel_rfl) (by kernel_rfl) (by kernel_rfl) (fun _ _ _ h => h) (Or.inr ⟨by rfl, rfl⟩) (by assumption) ?tbq39
    (try simp only [List.getElem_toArray, List.getElem_cons_zero, List.getElem_cons_succ, Act.put, List.setIfInBounds_toArray, List.set_cons_zero, List.set_cons_succ])
    refine' wpAnyH_take (i := 34) (v := _) rfl (by kernel_rfl) (by kernel_rfl) (by kernel_rfl) (fun _ _ _ h => h) (Or.inr ⟨by rfl, rfl⟩) (by assumption) ?tbq40
    (try simp only [List.getElem_toArray, List.getElem_cons_zero, List.getElem_cons_succ, Act.put, List.setIfInBounds_toArray, List.set_cons_zero, List.set_cons_succ])
    refine' wpAnyH_take (i := 35) (v := _) rfl (by kernel_rfl) (by kernel_rfl) (by kernel_rfl) (fun _ _ _ h => h) (Or.inr ⟨by rfl, rfl⟩) (by assumption) ?tbq41
    (try simp only [List.getElem_toArray, List.getElem_cons_zero, List.getElem_cons_succ, Act.put, List.setIfInBounds_toArray, List.set_cons_zero, List.set_cons_succ])
    refine' wpAnyH_take (i := 36) (v := _) rfl (by kernel_rfl) (by kernel_rfl) (by kernel_rfl) (fun _ _ _ h => h) (Or.inl ⟨by rfl, ?taq42⟩) (by assumption) ?tbq42
    case taq42 =>
      intro wS hSw
      (try dsimp only at hSw)
      (have q0 := (hSw.blk (.head _)).strAll HZL.out (by omega); have q1 := (hSw.blk (.tail _ (.head _))).strOwn (n := 32 + 32) HHL.out hcap5 hcm5; have q2 := (hSw.blk (.tail _ (.tail _ (.head _)))).strAll HQL.out (by omega); have q3 := (hSw.blk (.tail _ (.tail _ (.tail _ (.head _))))).strAll HL3.out (by omega); have q4 := (hSw.blk (.tail _ (.tail _ (.tail _ (.tail _ (.head _)))))).strAll HQL.out (by omega); have q5 := (hSw.blk (.tail _ (.tail _ (.tail _ (.tail _ (.tail _ (.head _))))))).strAll HPL.out (by omega); clear hSw; go_simp)
      (try (with_reducible rfl))
    (try simp only [List.getElem_toArray, List.getElem_cons_zero, List.getElem_cons_succ, Act.put, List.setIfInBounds_toArray, List.set_cons_zero, List.set_cons_succ])
    refine' wpAnyH_take (i := 37) (v := _) rfl (by kernel_rfl) (by kernel_rfl) (by kernel_rfl) (fun _ _ _ h => h) (Or.inl ⟨by rfl, ?taq43⟩) (by assumption) ?tbq43
    case taq43 =>
      intro wS hSw
      (try dsimp only at hSw)
      (have q0 := (hSw.blk (.head _)).strAll HZL.out (by omega); have q1 := (hSw.blk (.tail _ (.head _))).strOwn (n := 32 + 32) HHL.out hcap5 hcm5; have q2 := (hSw.blk (.tail _ (.tail _ (.head _)))).strAll HQL.out (by omega); have q3 := (hSw.blk (.tail _ (.tail _ (.tail _ (.head _))))).strAll HL3.out (by omega); have q4 := (hSw.blk (.tail _ (.tail _ (.tail _ (.tail _ (.head _)))))).strAll HQL.out (by omega); have q5 := (hSw.blk (.tail _ (.tail _ (.tail _ (.tail _ (.tail _ (.head _))))))).strAll HPL.out (by omega); clear hSw; go_simp)
      (try (with_reducible rfl))
    (try simp only [List.getElem_toArray, List.getElem_cons_zero, List.getElem_cons_succ, Act.put, List.setIfInBounds_toArray, List.set_cons_zero, List.set_cons_succ])
    refine' wpAnyH_take (i := 38) (v := _) rfl (by kernel_rfl) (by kernel_rfl) (by kernel_rfl) (fun _ _ _ h => h) (Or.inl ⟨by rfl, ?taq44⟩) (by assumption) ?tbq44
    case taq44 =>
      intro wS hSw
      (try dsimp only at hSw)
      (have q0 := (hSw.blk (.head _)).strAll HZL.out (by omega); have q1 := (hSw.blk (.tail _ (.head _))).strOwn (n := 32 + 32) HHL.out hcap5 hcm5; have q2 := (hSw.blk (.tail _ (.tail _ (.head _)))).strAll HQL.out (by omega); have q3 := (hSw.blk (.tail _ (.tail _ (.tail _ (.head _))))).strAll HL3.out (by omega); have q4 := (hSw.blk (.tail _ (.tail _ (.tail _ (.tail _ (.head _)))))).strAll HQL.out (by omega); have q5 := (hSw.blk (.tail _ (.tail _ (.tail _ (.tail _ (.tail _ (.head _))))))).strAll HPL.out (by omega); clear hSw; go_simp)
      (try (with_reducible rfl))
    (try simp only [List.getElem_toArray, List.getElem_cons_zero, List.getElem_cons_succ, Act.put, List.setIfInBounds_toArray, List.set_cons_zero, List.set_cons_succ])
    refine' wpAnyH_take (i := 39) (v := _) rfl (by kernel_rfl) (by kernel_rfl) (by kernel_rfl) (fun _ _ _ h => h) (Or.inl ⟨by rfl, ?taq45⟩) (by assumption) ?tbq45
    case taq45 =>
      intro wS hSw
      (try dsimp only at hSw)
      (have q0 := (hSw.blk (.head _)).strAll HZL.out (by omega); have q1 := (hSw.blk (.tail _ (.head _))).strOwn (n := 32 + 32) HHL.out hcap5 hcm5; have q2 := (hSw.blk (.tail _ (.tail _ (.head _)))).strAll HQL.out (by omega); have q3 := (hSw.blk (.tail _ (.tail _ (.tail _ (.head _))))).strAll HL3.out (by omega); have q4 := (hSw.blk (.tail _ (.tail _ (.tail _ (.tail _ (.head _)))))).strAll HQL.out (by omega); have q5 := (hSw.blk (.tail _ (.tail _ (.tail _ (.tail _ (.tail _ (.head _))))))).strAll HPL.out (by omega); clear hSw; go_simp)
      (try (with_reducible rfl))
    (try simp only [List.getElem_toArray, List.getElem_cons_zero, List.getElem_cons_succ, Act.put, List.setIfInBounds_toArray, List.set_cons_zero, List.set_cons_succ])
    refine' wpAnyH_take (i := 40) (v := _) rfl (by kernel_rfl) (by kernel_rfl) (by kernel_rfl) (fun _ _ _ h => h) (Or.inl ⟨by rfl, ?taq46⟩) (by assumption) ?tbq46
    case taq46 =>
      intro wS hSw
      (try dsimp only at hSw)
      (have q0 := (hSw.blk (.head _)).strAll HZL.out (by omega); have q1 := (hSw.blk (.tail _ (.head _))).strOwn (n := 32 + 32) HHL.out hcap5 hcm5; have q2 := (hSw.blk (.tail _ (.tail _ (.head _)))).strAll HQL.out (by omega); have q3 := (hSw.blk (.tail _ (.tail _ (.tail _ (.head _))))).strAll HL3.out (by omega); have q4 := (hSw.blk (.tail _ (.tail _ (.tail _ (.tail _ (.head _)))))).strAll HQL.out (by omega); have q5 := (hSw.blk (.tail _ (.tail _ (.tail _ (.tail _ (.tail _ (.head _))))))).strAll HPL.out (by omega); clear hSw; go_simp)
      (try (with_reducible rfl))
    (try simp only [List.getElem_toArray, List.getElem_cons_zero, List.getElem_cons_succ, Act.put, List.setIfInBounds_toArray, List.set_cons_zero, List.set_cons_succ])
    refine wpAnyH_ready (rs := [41]) (by kernel_rfl) (by simp) ?_
    refine AllReadyH.cons rfl (fun K9 hK9 => ?_) AllReadyH.nil
    (try simp only [List.getElem_toArray, List.getElem_cons_zero, List.getElem_cons_succ])
    go_simp
    refine (ds_full D12.out.drew 0 0 rfl).mono ?_
    rw [HZ.out]
    rintro en we ⟨g7, rfl, h⟩
    have D13 := Lib.hid h
    have D13s := Lib.hid (h.sub (bs' := [(g6, 58, bytesV Z), (g5, 5, bytesV H ++ rest5), (g4, 58, bytesV Q), (g3, 58, bytesV r), (g2, 5, bytesV Q), (g1, 5, bytesV r)]) (fun b hb => .tail _ hb))
    have q7 := (h.blk (.head _)).strAll HZL.out (by omega)
    clear h
    refine hK9.out _ _ (D13s.out) (fun hHeld9 => ?_)
    clear hK9 K9
    (try simp only [List.getElem_toArray, List.getElem_cons_zero, List.getElem_cons_succ, Act.put, List.setIfInBounds_toArray, List.set_cons_zero, List.set_cons_succ])
    refine wpAnyH_ready (rs := [42]) (by kernel_rfl) (by simp) ?_
    refine AllReadyH.cons rfl (fun K9 hK9 => ?_) AllReadyH.nil
    (try simp only [List.getElem_toArray, List.getElem_cons_zero, List.getElem_cons_succ])
    go_simp
    refine hK9.out _ _ (D13s.out) (fun hHeld9 => ?_)
    clear hK9 K9
    (try simp only [List.getElem_toArray, List.getElem_cons_zero, List.getElem_cons_succ, Act.put, List.setIfInBounds_toArray, List.set_cons_zero, List.set_cons_succ])
    refine' wpAnyH_take (i := 43) (v := _) rfl (by kernel_rfl) (by kernel_rfl) (by kernel_rfl) (fun _ _ _ h => h) (Or.inl ⟨by rfl, ?taq47⟩) (by assumption) ?tbq47
    case taq47 =>
      intro wS hSw
      (try dsimp only at hSw)
      (have q0 := (hSw.blk (.head _)).strAll HZL.out (by omega); have q1 := (hSw.blk (.tail _ (.head _))).strOwn (n := 32 + 32) HHL.out hcap5 hcm5; have q2 := (hSw.blk (.tail _ (.tail _ (.head _)))).strAll HQL.out (by omega); have q3 := (hSw.blk (.tail _ (.tail _ (.tail _ (.head _))))).strAll HL3.out (by omega); have q4 := (hSw.blk (.tail _ (.tail _ (.tail _ (.tail _ (.head _)))))).strAll HQL.out (by omega); have q5 := (hSw.blk (.tail _ (.tail _ (.tail _ (.tail _ (.tail _ (.head _))))))).strAll HPL.out (by omega); clear hSw; go_simp)
      (try (with_reducible rfl))
    (try simp only [List.getElem_toArray, List.getElem_cons_zero, List.getElem_cons_succ, Act.put, List.setIfInBounds_toArray, List.set_cons_zero, List.set_cons_succ])
    refine' wpAnyH_take (i := 44) (v := _) rfl (by kernel_rfl) (by kernel_rfl) (by kernel_rfl) (fun _ _ _ h => h) (Or.inl ⟨by rfl, ?taq48⟩) (by assumption) ?tbq48
    case taq48 =>
      intro wS hSw
      (try dsimp only at hSw)
      (have q0 := (hSw.blk (.head _)).strAll HZL.out (by omega); have q1 := (hSw.blk (.tail _ (.head _))).strOwn (n := 32 + 32) HHL.out hcap5 hcm5; have q2 := (hSw.blk (.tail _ (.tail _ (.head _)))).strAll HQL.out (by omega); have q3 := (hSw.blk (.tail _ (.tail _ (.tail _ (.head _))))).strAll HL3.out (by omega); have q4 := (hSw.blk (.tail _ (.tail _ (.tail _ (.tail _ (.head _)))))).strAll HQL.out (by omega); have q5 := (hSw.blk (.tail _ (.tail _ (.tail _ (.tail _ (.tail _ (.head _))))))).strAll HPL.out (by omega); clear hSw; go_simp)
      (try (with_reducible rfl))
    (try simp only [List.getElem_toArray, List.getElem_cons_zero, List.getElem_cons_succ, Act.put, List.setIfInBounds_toArray, List.set_cons_zero, List.set_cons_succ])
    refine' wpAnyH_take (i := 45) (v := _) rfl (by kernel_rfl) (by kernel_rfl) (by kernel_rfl) (fun _ _ _ h => h) (Or.inl ⟨by rfl, ?taq49⟩) (by assumption) ?tbq49
    case taq49 =>
      intro wS hSw
      (try dsimp only at hSw)
      (have q0 := (hSw.blk (.head _)).strAll HZL.out (by omega); have q1 := (hSw.blk (.tail _ (.head _))).strOwn (n := 32 + 32) HHL.out hcap5 hcm5; have q2 := (hSw.blk (.tail _ (.tail _ (.head _)))).strAll HQL.out (by omega); have q3 := (hSw.blk (.tail _ (.tail _ (.tail _ (.head _))))).strAll HL3.out (by omega); have q4 := (hSw.blk (.tail _ (.tail _ (.tail _ (.tail _ (.head _)))))).strAll HQL.out (by omega); have q5 := (hSw.blk (.tail _ (.tail _ (.tail _ (.tail _ (.tail _ (.head _))))))).strAll HPL.out (by omega); clear hSw; go_simp)
      (try (with_reducible rfl))
    (try simp only [List.getElem_toArray, List.getElem_cons_zero, List.getElem_cons_succ, Act.put, List.setIfInBounds_toArray, List.set_cons_zero, List.set_cons_succ])
    refine wpAnyH_ready (rs := [46]) (by kernel_rfl) (by simp) ?_
    refine AllReadyH.cons rfl (fun K9 hK9 => ?_) AllReadyH.nil
    (try simp only [List.getElem_toArray, List.getElem_cons_zero, List.getElem_cons_succ])
    go_simp
    refine (awake5_any we).mono ?_
    rintro en wf ⟨rfl, hbf⟩
    have D14 := Lib.hid (D13s.out.below hbf)
    clear hbf
    refine hK9.out _ _ (D14.out) (fun hHeld9 => ?_)
    clear hK9 K9
    (try simp only [List.getElem_toArray, List.getElem_cons_zero, List.getElem_cons_succ, Act.put, List.setIfInBounds_toArray, List.set_cons_zero, List.set_cons_succ])
    refine' wpAnyH_take (i := 47) (v := _) rfl (by kernel_rfl) (by kernel_rfl) (by kernel_rfl) (fun _ _ _ h => h) (Or.inl ⟨by rfl, ?taq50⟩) (by assumption) ?tbq50
    case taq50 =>
      intro wS hSw
      (try dsimp only at hSw)
      (have q0 := (hSw.blk (.head _)).strAll HZL.out (by omega); have q1 := (hSw.blk (.tail _ (.head _))).strOwn (n := 32 + 32) HHL.out hcap5 hcm5; have q2 := (hSw.blk (.tail _ (.tail _ (.head _)))).strAll HQL.out (by omega); have q3 := (hSw.blk (.tail _ (.tail _ (.tail _ (.head _))))).strAll HL3.out (by omega); have q4 := (hSw.blk (.tail _ (.tail _ (.tail _ (.tail _ (.head _)))))).strAll HQL.out (by omega); have q5 := (hSw.blk (.tail _ (.tail _ (.tail _ (.tail _ (.tail _ (.head _))))))).strAll HPL.out (by omega); clear hSw; go_simp)
      (try (with_reducible rfl))
    (try simp only [List.getElem_toArray, List.getElem_cons_zero, List.getElem_cons_succ, Act.put, List.setIfInBounds_toArray, List.set_cons_zero, List.set_cons_succ])
    refine' wpAnyH_take (i := 48) (v := _) rfl (by kernel_rfl) (by kernel_rfl) (by kernel_rfl) (fun _ _ _ h => h) (Or.inl ⟨by rfl, ?taq51⟩) (by assumption) ?tbq51
    case taq51 =>
      intro wS hSw
      (try dsimp only at hSw)
      (have q0 := (hSw.blk (.head _)).strAll HZL.out (by omega); have q1 := (hSw.blk (.tail _ (.head _))).strOwn (n := 32 + 32) HHL.out hcap5 hcm5; have q2 := (hSw.blk (.tail _ (.tail _ (.head _)))).strAll HQL.out (by omega); have q3 := (hSw.blk (.tail _ (.tail _ (.tail _ (.head _))))).strAll HL3.out (by omega); have q4 := (hSw.blk (.tail _ (.tail _ (.tail _ (.tail _ (.head _)))))).strAll HQL.out (by omega); have q5 := (hSw.blk (.tail _ (.tail _ (.tail _ (.tail _ (.tail _ (.head _))))))).strAll HPL.out (by omega); clear hSw; go_simp)
      (try (with_reducible rfl))
    (try simp only [List.getElem_toArray, List.getElem_cons_zero, List.getElem_cons_succ, Act.put, List.setIfInBounds_toArray, List.set_cons_zero, List.set_cons_succ])
    refine wpAnyH_done (by kernel_rfl) ?_ _
    go_wp2
    go_ret
    exact ⟨rfl, D14.out.bel⟩
  · by_cases hn1 : r = P
    · subst hn1
      refine wp_region_held_drew (S := (fun w' => DS w w' [(d, sD.crash a4)] [(g6, 58, bytesV Z), (g5, 5, bytesV H ++ rest5), (g4, 58, bytesV Q), (g3, 58, bytesV r), (g2, 5, bytesV Q), (g1, 5, bytesV r)])) (by kernel_rfl) (D12.out.drew) (fun hHeld => ?_)
      refine' wpAnyH_take (i := 0) (v := _) rfl (by kernel_rfl) (by kernel_rfl) (by kernel_rfl) (fun _ _ _ h => h) (Or.inl ⟨by rfl, ?taq52⟩) (by assumption) ?tbq52
      case taq52 =>
        intro wS hSw
        (try dsimp only at hSw)
        (have q0 := (hSw.blk (.head _)).strAll HZL.out (by omega); have q1 := (hSw.blk (.tail _ (.head _))).strOwn (n := 32 + 32) HHL.out hcap5 hcm5; have q2 := (hSw.blk (.tail _ (.tail _ (.head _)))).strAll HQL.out (by omega); have q3 := (hSw.blk (.tail _ (.tail _ (.tail _ (.head _))))).strAll HL3.out (by omega); have q4 := (hSw.blk (.tail _ (.tail _ (.tail _ (.tail _ (.head _)))))).strAll HQL.out (by omega); have q5 := (hSw.blk (.tail _ (.tail _ (.tail _ (.tail _ (.tail _ (.head _))))))).strAll HPL.out (by omega); clear hSw; go_simp)
        (try (with_reducible rfl))
      (try simp only [List.getElem_toArray, List.getElem_cons_zero, List.getElem_cons_succ, Act.put, List.setIfInBounds_toArray, List.set_cons_zero, List.set_cons_succ])
      refine' wpAnyH_take (i := 1) (v := _) rfl (by kernel_rfl) (by kernel_rfl) (by kernel_rfl) (fun _ _ _ h => h) (Or.inl ⟨by rfl, ?taq53⟩) (by assumption) ?tbq53
      case taq53 =>
        intro wS hSw
        (try dsimp only at hSw)
        (have q0 := (hSw.blk (.head _)).strAll HZL.out (by omega); have q1 := (hSw.blk (.tail _ (.head _))).strOwn (n := 32 + 32) HHL.out hcap5 hcm5; have q2 := (hSw.blk (.tail _ (.tail _ (.head _)))).strAll HQL.out (by omega); have q3 := (hSw.blk (.tail _ (.tail _ (.tail _ (.head _))))).strAll HL3.out (by omega); have q4 := (hSw.blk (.tail _ (.tail _ (.tail _ (.tail _ (.head _)))))).strAll HQL.out (by omega); have q5 := (hSw.blk (.tail _ (.tail _ (.tail _ (.tail _ (.tail _ (.head _))))))).strAll HPL.out (by omega); clear hSw; go_simp)
        (try (with_reducible rfl))
      (try simp only [List.getElem_toArray, List.getElem_cons_zero, List.getElem_cons_succ, Act.put, List.setIfInBounds_toArray, List.set_cons_zero, List.set_cons_succ])
      refine' wpAnyH_take (i := 2) (v := _) rfl (by kernel_rfl) (by kernel_rfl) (by kernel_rfl) (fun _ _ _ h => h) (Or.inl ⟨by rfl, ?taq54⟩) (by assumption) ?tbq54
      case taq54 =>
        intro wS hSw
        (try dsimp only at hSw)
        (have q0 := (hSw.blk (.head _)).strAll HZL.out (by omega); have q1 := (hSw.blk (.tail _ (.head _))).strOwn (n := 32 + 32) HHL.out hcap5 hcm5; have q2 := (hSw.blk (.tail _ (.tail _ (.head _)))).strAll HQL.out (by omega); have q3 := (hSw.blk (.tail _ (.tail _ (.tail _ (.head _))))).strAll HL3.out (by omega); have q4 := (hSw.blk (.tail _ (.tail _ (.tail _ (.tail _ (.head _)))))).strAll HQL.out (by omega); have q5 := (hSw.blk (.tail _ (.tail _ (.tail _ (.tail _ (.tail _ (.head _))))))).strAll HPL.out (by omega); clear hSw; go_simp)
        (try (with_reducible rfl))
      (try simp only [List.getElem_toArray, List.getElem_cons_zero, List.getElem_cons_succ, Act.put, List.setIfInBounds_toArray, List.set_cons_zero, List.set_cons_succ])
      refine' wpAnyH_take (i := 3) (v := _) rfl (by kernel_rfl) (by kernel_rfl) (by kernel_rfl) (fun _ _ _ h => h) (Or.inl ⟨by rfl, ?taq55⟩) (by assumption) ?tbq55
      case taq55 =>
        intro wS hSw
        (try dsimp only at hSw)
        (have q0 := (hSw.blk (.head _)).strAll HZL.out (by omega); have q1 := (hSw.blk (.tail _ (.head _))).strOwn (n := 32 + 32) HHL.out hcap5 hcm5; have q2 := (hSw.blk (.tail _ (.tail _ (.head _)))).strAll HQL.out (by omega); have q3 := (hSw.blk (.tail _ (.tail _ (.tail _ (.head _))))).strAll HL3.out (by omega); have q4 := (hSw.blk (.tail _ (.tail _ (.tail _ (.tail _ (.head _)))))).strAll HQL.out (by omega); have q5 := (hSw.blk (.tail _ (.tail _ (.tail _ (.tail _ (.tail _ (.head _))))))).strAll HPL.out (by omega); clear hSw; go_simp)
        (try (with_reducible rfl))
      (try simp only [List.getElem_toArray, List.getElem_cons_zero, List.getElem_cons_succ, Act.put, List.setIfInBounds_toArray, List.set_cons_zero, List.set_cons_succ])
      refine' wpAnyH_take (i := 4) (v := _) rfl (by kernel_rfl) (by kernel_rfl) (by kernel_rfl) (fun _ _ _ h => h) (Or.inl ⟨by rfl, ?taq56⟩) (by assumption) ?tbq56
      case taq56 =>
        intro wS hSw
        (try dsimp only at hSw)
        (have q0 := (hSw.blk (.head _)).strAll HZL.out (by omega); have q1 := (hSw.blk (.tail _ (.head _))).strOwn (n := 32 + 32) HHL.out hcap5 hcm5; have q2 := (hSw.blk (.tail _ (.tail _ (.head _)))).strAll HQL.out (by omega); have q3 := (hSw.blk (.tail _ (.tail _ (.tail _ (.head _))))).strAll HL3.out (by omega); have q4 := (hSw.blk (.tail _ (.tail _ (.tail _ (.tail _ (.head _)))))).strAll HQL.out (by omega); have q5 := (hSw.blk (.tail _ (.tail _ (.tail _ (.tail _ (.tail _ (.head _))))))).strAll HPL.out (by omega); clear hSw; go_simp)
        (try (with_reducible rfl))
      (try simp only [List.getElem_toArray, List.getElem_cons_zero, List.getElem_cons_succ, Act.put, List.setIfInBounds_toArray, List.set_cons_zero, List.set_cons_succ])
      refine' wpAnyH_take (i := 5) (v := _) rfl (by kernel_rfl) (by kernel_rfl) (by kernel_rfl) (fun _ _ _ h => h) (Or.inl ⟨by rfl, ?taq57⟩) (by assumption) ?tbq57
      case taq57 =>
        intro wS hSw
        (try dsimp only at hSw)
        (have q0 := (hSw.blk (.head _)).strAll HZL.out (by omega); have q1 := (hSw.blk (.tail _ (.head _))).strOwn (n := 32 + 32) HHL.out hcap5 hcm5; have q2 := (hSw.blk (.tail _ (.tail _ (.head _)))).strAll HQL.out (by omega); have q3 := (hSw.blk (.tail _ (.tail _ (.tail _ (.head _))))).strAll HL3.out (by omega); have q4 := (hSw.blk (.tail _ (.tail _ (.tail _ (.tail _ (.head _)))))).strAll HQL.out (by omega); have q5 := (hSw.blk (.tail _ (.tail _ (.tail _ (.tail _ (.tail _ (.head _))))))).strAll HPL.out (by omega); clear hSw; go_simp)
        (try (with_reducible rfl))
      (try simp only [List.getElem_toArray, List.getElem_cons_zero, List.getElem_cons_succ, Act.put, List.setIfInBounds_toArray, List.set_cons_zero, List.set_cons_succ])
      refine' wpAnyH_take (i := 6) (v := _) rfl (by kernel_rfl) (by kernel_rfl) (by kernel_rfl) (fun _ _ _ h => h) (Or.inl ⟨by rfl, ?taq58⟩) (by assumption) ?tbq58
      case taq58 =>
        intro wS hSw
        (try dsimp only at hSw)
        (have q0 := (hSw.blk (.head _)).strAll HZL.out (by omega); have q1 := (hSw.blk (.tail _ (.head _))).strOwn (n := 32 + 32) HHL.out hcap5 hcm5; have q2 := (hSw.blk (.tail _ (.tail _ (.head _)))).strAll HQL.out (by omega); have q3 := (hSw.blk (.tail _ (.tail _ (.tail _ (.head _))))).strAll HL3.out (by omega); have q4 := (hSw.blk (.tail _ (.tail _ (.tail _ (.tail _ (.head _)))))).strAll HQL.out (by omega); have q5 := (hSw.blk (.tail _ (.tail _ (.tail _ (.tail _ (.tail _ (.head _))))))).strAll HPL.out (by omega); clear hSw; go_simp)
        (try (with_reducible rfl))
      (try simp only [List.getElem_toArray, List.getElem_cons_zero, List.getElem_cons_succ, Act.put, List.setIfInBounds_toArray, List.set_cons_zero, List.set_cons_succ])
      refine' wpAnyH_take (i := 7) (v := _) rfl (by kernel_rfl) (by kernel_rfl) (by kernel_rfl) (fun _ _ _ h => h) (Or.inl ⟨by rfl, ?taq59⟩) (by assumption) ?tbq59
      case taq59 =>
        intro wS hSw
        (try dsimp only at hSw)
        (have q0 := (hSw.blk (.head _)).strAll HZL.out (by omega); have q1 := (hSw.blk (.tail _ (.head _))).strOwn (n := 32 + 32) HHL.out hcap5 hcm5; have q2 := (hSw.blk (.tail _ (.tail _ (.head _)))).strAll HQL.out (by omega); have q3 := (hSw.blk (.tail _ (.tail _ (.tail _ (.head _))))).strAll HL3.out (by omega); have q4 := (hSw.blk (.tail _ (.tail _ (.tail _ (.tail _ (.head _)))))).strAll HQL.out (by omega); have q5 := (hSw.blk (.tail _ (.tail _ (.tail _ (.tail _ (.tail _ (.head _))))))).strAll HPL.out (by omega); clear hSw; go_simp)
        (try (with_reducible rfl))
      (try simp only [List.getElem_toArray, List.getElem_cons_zero, List.getElem_cons_succ, Act.put, List.setIfInBounds_toArray, List.set_cons_zero, List.set_cons_succ])
      refine' wpAnyH_take (i := 8) (v := _) rfl (by kernel_rfl) (by kernel_rfl) (by kernel_rfl) (fun _ _ _ h => h) (Or.inl ⟨by rfl, ?taq60⟩) (by assumption) ?tbq60
      case taq60 =>
        intro wS hSw
        (try dsimp only at hSw)
        (have q0 := (hSw.blk (.head _)).strAll HZL.out (by omega); have q1 := (hSw.blk (.tail _ (.head _))).strOwn (n := 32 + 32) HHL.out hcap5 hcm5; have q2 := (hSw.blk (.tail _ (.tail _ (.head _)))).strAll HQL.out (by omega); have q3 := (hSw.blk (.tail _ (.tail _ (.tail _ (.head _))))).strAll HL3.out (by omega); have q4 := (hSw.blk (.tail _ (.tail _ (.tail _ (.tail _ (.head _)))))).strAll HQL.out (by omega); have q5 := (hSw.blk (.tail _ (.tail _ (.tail _ (.tail _ (.tail _ (.head _))))))).strAll HPL.out (by omega); clear hSw; go_simp)
        (try (with_reducible rfl))
      (try simp only [List.getElem_toArray, List.getElem_cons_zero, List.getElem_cons_succ, Act.put, List.setIfInBounds_toArray, List.set_cons_zero, List.set_cons_succ])
      refine' wpAnyH_take (i := 9) (v := _) rfl (by kernel_rfl) (by kernel_rfl) (by kernel_rfl) (fun _ _ _ h => h) (Or.inl ⟨by rfl, ?taq61⟩) (by assumption) ?tbq61
      case taq61 =>
        intro wS hSw
        (try dsimp only at hSw)
        (have q0 := (hSw.blk (.head _)).strAll HZL.out (by omega); have q1 := (hSw.blk (.tail _ (.head _))).strOwn (n := 32 + 32) HHL.out hcap5 hcm5; have q2 := (hSw.blk (.tail _ (.tail _ (.head _)))).strAll HQL.out (by omega); have q3 := (hSw.blk (.tail _ (.tail _ (.tail _ (.head _))))).strAll HL3.out (by omega); have q4 := (hSw.blk (.tail _ (.tail _ (.tail _ (.tail _ (.head _)))))).strAll HQL.out (by omega); have q5 := (hSw.blk (.tail _ (.tail _ (.tail _ (.tail _ (.tail _ (.head _))))))).strAll HPL.out (by omega); clear hSw; go_simp)
        (try (with_reducible rfl))
      (try simp only [List.getElem_toArray, List.getElem_cons_zero, List.getElem_cons_succ, Act.put, List.setIfInBounds_toArray, List.set_cons_zero, List.set_cons_succ])
      refine' wpAnyH_take (i := 10) (v := _) rfl (by kernel_rfl) (by kernel_rfl) (by kernel_rfl) (fun _ _ _ h => h) (Or.inl ⟨by rfl, ?taq62⟩) (by assumption) ?tbq62
      case taq62 =>
        intro wS hSw
        (try dsimp only at hSw)
        (have q0 := (hSw.blk (.head _)).strAll HZL.out (by omega); have q1 := (hSw.blk (.tail _ (.head _))).strOwn (n := 32 + 32) HHL.out hcap5 hcm5; have q2 := (hSw.blk (.tail _ (.tail _ (.head _)))).strAll HQL.out (by omega); have q3 := (hSw.blk (.tail _ (.tail _ (.tail _ (.head _))))).strAll HL3.out (by omega); have q4 := (hSw.blk (.tail _ (.tail _ (.tail _ (.tail _ (.head _)))))).strAll HQL.out (by omega); have q5 := (hSw.blk (.tail _ (.tail _ (.tail _ (.tail _ (.tail _ (.head _))))))).strAll HPL.out (by omega); clear hSw; go_simp)
        (try (with_reducible rfl))
      (try simp only [List.getElem_toArray, List.getElem_cons_zero, List.getElem_cons_succ, Act.put, List.setIfInBounds_toArray, List.set_cons_zero, List.set_cons_succ])
      refine' wpAnyH_take (i := 11) (v := _) rfl (by kernel_rfl) (by kernel_rfl) (by kernel_rfl) (fun _ _ _ h => h) (Or.inl ⟨by rfl, ?taq63⟩) (by assumption) ?tbq63
      case taq63 =>
        intro wS hSw
        (try dsimp only at hSw)
        (have q0 := (hSw.blk (.head _)).strAll HZL.out (by omega); have q1 := (hSw.blk (.tail _ (.head _))).strOwn (n := 32 + 32) HHL.out hcap5 hcm5; have q2 := (hSw.blk (.tail _ (.tail _ (.head _)))).strAll HQL.out (by omega); have q3 := (hSw.blk (.tail _ (.tail _ (.tail _ (.head _))))).strAll HL3.out (by omega); have q4 := (hSw.blk (.tail _ (.tail _ (.tail _ (.tail _ (.head _)))))).strAll HQL.out (by omega); have q5 := (hSw.blk (.tail _ (.tail _ (.tail _ (.tail _ (.tail _ (.head _))))))).strAll HPL.out (by omega); clear hSw; go_simp)
        (try (with_reducible rfl))
      (try simp only [List.getElem_toArray, List.getElem_cons_zero, List.getElem_cons_succ, Act.put, List.setIfInBounds_toArray, List.set_cons_zero, List.set_cons_succ])
      refine' wpAnyH_take (i := 12) (v := _) rfl (by kernel_rfl) (by kernel_rfl) (by kernel_rfl) (fun _ _ _ h => h) (Or.inl ⟨by rfl, ?taq64⟩) (by assumption) ?tbq64
      case taq64 =>
        intro wS hSw
        (try dsimp only at hSw)
        (have q0 := (hSw.blk (.head _)).strAll HZL.out (by omega); have q1 := (hSw.blk (.tail _ (.head _))).strOwn (n := 32 + 32) HHL.out hcap5 hcm5; have q2 := (hSw.blk (.tail _ (.tail _ (.head _)))).strAll HQL.out (by omega); have q3 := (hSw.blk (.tail _ (.tail _ (.tail _ (.head _))))).strAll HL3.out (by omega); have q4 := (hSw.blk (.tail _ (.tail _ (.tail _ (.tail _ (.head _)))))).strAll HQL.out (by omega); have q5 := (hSw.blk (.tail _ (.tail _ (.tail _ (.tail _ (.tail _ (.head _))))))).strAll HPL.out (by omega); clear hSw; go_simp)
        (try (with_reducible rfl))
      (try simp only [List.getElem_toArray, List.getElem_cons_zero, List.getElem_cons_succ, Act.put, List.setIfInBounds_toArray, List.set_cons_zero, List.set_cons_succ])
      refine' wpAnyH_take (i := 13) (v := _) rfl (by kernel_rfl) (by kernel_rfl) (by kernel_rfl) (fun _ _ _ h => h) (Or.inl ⟨by rfl, ?taq65⟩) (by assumption) ?tbq65
      case taq65 =>
        intro wS hSw
        (try dsimp only at hSw)
        (have q0 := (hSw.blk (.head _)).strAll HZL.out (by omega); have q1 := (hSw.blk (.tail _ (.head _))).strOwn (n := 32 + 32) HHL.out hcap5 hcm5; have q2 := (hSw.blk (.tail _ (.tail _ (.head _)))).strAll HQL.out (by omega); have q3 := (hSw.blk (.tail _ (.tail _ (.tail _ (.head _))))).strAll HL3.out (by omega); have q4 := (hSw.blk (.tail _ (.tail _ (.tail _ (.tail _ (.head _)))))).strAll HQL.out (by omega); have q5 := (hSw.blk (.tail _ (.tail _ (.tail _ (.tail _ (.tail _ (.head _))))))).strAll HPL.out (by omega); clear hSw; go_simp)
        (try (with_reducible rfl))
      (try simp only [List.getElem_toArray, List.getElem_cons_zero, List.getElem_cons_succ, Act.put, List.setIfInBounds_toArray, List.set_cons_zero, List.set_cons_succ])
      refine' wpAnyH_take (i := 14) (v := _) rfl (by kernel_rfl) (by kernel_rfl) (by kernel_rfl) (fun _ _ _ h => h) (Or.inl ⟨by rfl, ?taq66⟩) (by assumption) ?tbq66
      case taq66 =>
        intro wS hSw
        (try dsimp only at hSw)
        (have q0 := (hSw.blk (.head _)).strAll HZL.out (by omega); have q1 := (hSw.blk (.tail _ (.head _))).strOwn (n := 32 + 32) HHL.out hcap5 hcm5; have q2 := (hSw.blk (.tail _ (.tail _ (.head _)))).strAll HQL.out (by omega); have q3 := (hSw.blk (.tail _ (.tail _ (.tail _ (.head _))))).strAll HL3.out (by omega); have q4 := (hSw.blk (.tail _ (.tail _ (.tail _ (.tail _ (.head _)))))).strAll HQL.out (by omega); have q5 := (hSw.blk (.tail _ (.tail _ (.tail _ (.tail _ (.tail _ (.head _))))))).strAll HPL.out (by omega); clear hSw; go_simp)
        (try (with_reducible rfl))
      (try simp only [List.getElem_toArray, List.getElem_cons_zero, List.getElem_cons_succ, Act.put, List.setIfInBounds_toArray, List.set_cons_zero, List.set_cons_succ])
      refine' wpAnyH_take (i := 15) (v := _) rfl (by kernel_rfl) (by kernel_rfl) (by kernel_rfl) (fun _ _ _ h => h) (Or.inl ⟨by rfl, ?taq67⟩) (by assumption) ?tbq67
      case taq67 =>
        intro wS hSw
        (try dsimp only at hSw)
        (have q0 := (hSw.blk (.head _)).strAll HZL.out (by omega); have q1 := (hSw.blk (.tail _ (.head _))).strOwn (n := 32 + 32) HHL.out hcap5 hcm5; have q2 := (hSw.blk (.tail _ (.tail _ (.head _)))).strAll HQL.out (by omega); have q3 := (hSw.blk (.tail _ (.tail _ (.tail _ (.head _))))).strAll HL3.out (by omega); have q4 := (hSw.blk (.tail _ (.tail _ (.tail _ (.tail _ (.head _)))))).strAll HQL.out (by omega); have q5 := (hSw.blk (.tail _ (.tail _ (.tail _ (.tail _ (.tail _ (.head _))))))).strAll HPL.out (by omega); clear hSw; go_simp)
        (try (with_reducible rfl))
      (try simp only [List.getElem_toArray, List.getElem_cons_zero, List.getElem_cons_succ, Act.put, List.setIfInBounds_toArray, List.set_cons_zero, List.set_cons_succ])
      refine' wpAnyH_take (i := 16) (v := _) rfl (by kernel_rfl) (by kernel_rfl) (by kernel_rfl) (fun _ _ _ h => h) (Or.inl ⟨by rfl, ?taq68⟩) (by assumption) ?tbq68
      case taq68 =>
        intro wS hSw
        (try dsimp only at hSw)
        (have q0 := (hSw.blk (.head _)).strAll HZL.out (by omega); have q1 := (hSw.blk (.tail _ (.head _))).strOwn (n := 32 + 32) HHL.out hcap5 hcm5; have q2 := (hSw.blk (.tail _ (.tail _ (.head _)))).strAll HQL.out (by omega); have q3 := (hSw.blk (.tail _ (.tail _ (.tail _ (.head _))))).strAll HL3.out (by omega); have q4 := (hSw.blk (.tail _ (.tail _ (.tail _ (.tail _ (.head _)))))).strAll HQL.out (by omega); have q5 := (hSw.blk (.tail _ (.tail _ (.tail _ (.tail _ (.tail _ (.head _))))))).strAll HPL.out (by omega); clear hSw; go_simp)
        (try (with_reducible rfl))
      (try simp only [List.getElem_toArray, List.getElem_cons_zero, List.getElem_cons_succ, Act.put, List.setIfInBounds_toArray, List.set_cons_zero, List.set_cons_succ])
      refine' wpAnyH_take (i := 17) (v := _) rfl (by kernel_rfl) (by kernel_rfl) (by kernel_rfl) (fun _ _ _ h => h) (Or.inl ⟨by rfl, ?taq69⟩) (by assumption) ?tbq69
      case taq69 =>
        intro wS hSw
        (try dsimp only at hSw)
        (have q0 := (hSw.blk (.head _)).strAll HZL.out (by omega); have q1 := (hSw.blk (.tail _ (.head _))).strOwn (n := 32 + 32) HHL.out hcap5 hcm5; have q2 := (hSw.blk (.tail _ (.tail _ (.head _)))).strAll HQL.out (by omega); have q3 := (hSw.blk (.tail _ (.tail _ (.tail _ (.head _))))).strAll HL3.out (by omega); have q4 := (hSw.blk (.tail _ (.tail _ (.tail _ (.tail _ (.head _)))))).strAll HQL.out (by omega); have q5 := (hSw.blk (.tail _ (.tail _ (.tail _ (.tail _ (.tail _ (.head _))))))).strAll HPL.out (by omega); clear hSw; go_simp)
        (try (with_reducible rfl))
      (try simp only [List.getElem_toArray, List.getElem_cons_zero, List.getElem_cons_succ, Act.put, List.setIfInBounds_toArray, List.set_cons_zero, List.set_cons_succ])
      refine' wpAnyH_take (i := 18) (v := _) rfl (by kernel_rfl) (by kernel_rfl) (by kernel_rfl) (fun _ _ _ h => h) (Or.inl ⟨by rfl, ?taq70⟩) (by assumption) ?tbq70
      case taq70 =>
        intro wS hSw
        (try dsimp only at hSw)
        (have q0 := (hSw.blk (.head _)).strAll HZL.out (by omega); have q1 := (hSw.blk (.tail _ (.head _))).strOwn (n := 32 + 32) HHL.out hcap5 hcm5; have q2 := (hSw.blk (.tail _ (.tail _ (.head _)))).strAll HQL.out (by omega); have q3 := (hSw.blk (.tail _ (.tail _ (.tail _ (.head _))))).strAll HL3.out (by omega); have q4 := (hSw.blk (.tail _ (.tail _ (.tail _ (.tail _ (.head _)))))).strAll HQL.out (by omega); have q5 := (hSw.blk (.tail _ (.tail _ (.tail _ (.tail _ (.tail _ (.head _))))))).strAll HPL.out (by omega); clear hSw; go_simp)
        (try (with_reducible rfl))
      (try simp only [List.getElem_toArray, List.getElem_cons_zero, List.getElem_cons_succ, Act.put, List.setIfInBounds_toArray, List.set_cons_zero, List.set_cons_succ])
      refine' wpAnyH_take (i := 19) (v := _) rfl (by kernel_rfl) (by kernel_rfl) (by kernel_rfl) (fun _ _ _ h => h) (Or.inl ⟨by rfl, ?taq71⟩) (by assumption) ?tbq71
      case taq71 =>
        intro wS hSw
        (try dsimp only at hSw)
        (have q0 := (hSw.blk (.head _)).strAll HZL.out (by omega); have q1 := (hSw.blk (.tail _ (.head _))).strOwn (n := 32 + 32) HHL.out hcap5 hcm5; have q2 := (hSw.blk (.tail _ (.tail _ (.head _)))).strAll HQL.out (by omega); have q3 := (hSw.blk (.tail _ (.tail _ (.tail _ (.head _))))).strAll HL3.out (by omega); have q4 := (hSw.blk (.tail _ (.tail _ (.tail _ (.tail _ (.head _)))))).strAll HQL.out (by omega); have q5 := (hSw.blk (.tail _ (.tail _ (.tail _ (.tail _ (.tail _ (.head _))))))).strAll HPL.out (by omega); clear hSw; go_simp)
        (try (with_reducible rfl))
      (try simp only [List.getElem_toArray, List.getElem_cons_zero, List.getElem_cons_succ, Act.put, List.setIfInBounds_toArray, List.set_cons_zero, List.set_cons_succ])
      refine' wpAnyH_take (i := 20) (v := _) rfl (by kernel_rfl) (by kernel_rfl) (by kernel_rfl) (fun _ _ _ h => h) (Or.inl ⟨by rfl, ?taq72⟩) (by assumption) ?tbq72
      case taq72 =>
        intro wS hSw
        (try dsimp only at hSw)
        (have q0 := (hSw.blk (.head _)).strAll HZL.out (by omega); have q1 := (hSw.blk (.tail _ (.head _))).strOwn (n := 32 + 32) HHL.out hcap5 hcm5; have q2 := (hSw.blk (.tail _ (.tail _ (.head _)))).strAll HQL.out (by omega); have q3 := (hSw.blk (.tail _ (.tail _ (.tail _ (.head _))))).strAll HL3.out (by omega); have q4 := (hSw.blk (.tail _ (.tail _ (.tail _ (.tail _ (.head _)))))).strAll HQL.out (by omega); have q5 := (hSw.blk (.tail _ (.tail _ (.tail _ (.tail _ (.tail _ (.head _))))))).strAll HPL.out (by omega); clear hSw; go_simp)
        (try (with_reducible rfl))
      (try simp only [List.getElem_toArray, List.getElem_cons_zero, List.getElem_cons_succ, Act.put, List.setIfInBounds_toArray, List.set_cons_zero, List.set_cons_succ])
      refine' wpAnyH_take (i := 21) (v := _) rfl (by kernel_rfl) (by kernel_rfl) (by kernel_rfl) (fun _ _ _ h => h) (Or.inl ⟨by rfl, ?taq73⟩) (by assumption) ?tbq73
      case taq73 =>
        intro wS hSw
        (try dsimp only at hSw)
        (have q0 := (hSw.blk (.head _)).strAll HZL.out (by omega); have q1 := (hSw.blk (.tail _ (.head _))).strOwn (n := 32 + 32) HHL.out hcap5 hcm5; have q2 := (hSw.blk (.tail _ (.tail _ (.head _)))).strAll HQL.out (by omega); have q3 := (hSw.blk (.tail _ (.tail _ (.tail _ (.head _))))).strAll HL3.out (by omega); have q4 := (hSw.blk (.tail _ (.tail _ (.tail _ (.tail _ (.head _)))))).strAll HQL.out (by omega); have q5 := (hSw.blk (.tail _ (.tail _ (.tail _ (.tail _ (.tail _ (.head _))))))).strAll HPL.out (by omega); clear hSw; go_simp)
        (try (with_reducible rfl))
      (try simp only [List.getElem_toArray, List.getElem_cons_zero, List.getElem_cons_succ, Act.put, List.setIfInBounds_toArray, List.set_cons_zero, List.set_cons_succ])
      refine' wpAnyH_take (i := 22) (v := _) rfl (by kernel_rfl) (by kernel_rfl) (by kernel_rfl) (fun _ _ _ h => h) (Or.inl ⟨by rfl, ?taq74⟩) (by assumption) ?tbq74
      case taq74 =>
        intro wS hSw
        (try dsimp only at hSw)
        (have q0 := (hSw.blk (.head _)).strAll HZL.out (by omega); have q1 := (hSw.blk (.tail _ (.head _))).strOwn (n := 32 + 32) HHL.out hcap5 hcm5; have q2 := (hSw.blk (.tail _ (.tail _ (.head _)))).strAll HQL.out (by omega); have q3 := (hSw.blk (.tail _ (.tail _ (.tail _ (.head _))))).strAll HL3.out (by omega); have q4 := (hSw.blk (.tail _ (.tail _ (.tail _ (.tail _ (.head _)))))).strAll HQL.out (by omega); have q5 := (hSw.blk (.tail _ (.tail _ (.tail _ (.tail _ (.tail _ (.head _))))))).strAll HPL.out (by omega); clear hSw; go_simp)
        (try (with_reducible rfl))
      (try simp only [List.getElem_toArray, List.getElem_cons_zero, List.getElem_cons_succ, Act.put, List.setIfInBounds_toArray, List.set_cons_zero, List.set_cons_succ])
      refine' wpAnyH_take (i := 23) (v := _) rfl (by kernel_rfl) (by kernel_rfl) (by kernel_rfl) (fun _ _ _ h => h) (Or.inl ⟨by rfl, ?taq75⟩) (by assumption) ?tbq75
      case taq75 =>
        intro wS hSw
        (try dsimp only at hSw)
        (have q0 := (hSw.blk (.head _)).strAll HZL.out (by omega); have q1 := (hSw.blk (.tail _ (.head _))).strOwn (n := 32 + 32) HHL.out hcap5 hcm5; have q2 := (hSw.blk (.tail _ (.tail _ (.head _)))).strAll HQL.out (by omega); have q3 := (hSw.blk (.tail _ (.tail _ (.tail _ (.head _))))).strAll HL3.out (by omega); have q4 := (hSw.blk (.tail _ (.tail _ (.tail _ (.tail _ (.head _)))))).strAll HQL.out (by omega); have q5 := (hSw.blk (.tail _ (.tail _ (.tail _ (.tail _ (.tail _ (.head _))))))).strAll HPL.out (by omega); clear hSw; go_simp)
        (try (with_reducible rfl))
      (try simp only [List.getElem_toArray, List.getElem_cons_zero, List.getElem_cons_succ, Act.put, List.setIfInBounds_toArray, List.set_cons_zero, List.set_cons_succ])
      refine' wpAnyH_take (i := 24) (v := _) rfl (by kernel_rfl) (by kernel_rfl) (by kernel_rfl) (fun _ _ _ h => h) (Or.inr ⟨by rfl, rfl⟩) (by assumption) ?tbq76
      (try simp only [List.getElem_toArray, List.getElem_cons_zero, List.getElem_cons_succ, Act.put, List.setIfInBounds_toArray, List.set_cons_zero, List.set_cons_succ])
      refine' wpAnyH_take (i := 25) (v := _) rfl (by kernel_rfl) (by kernel_rfl) (by kernel_rfl) (fun _ _ _ h => h) (Or.inr ⟨by rfl, rfl⟩) (by assumption) ?tbq77
      (try simp only [List.getElem_toArray, List.getElem_cons_zero, List.getElem_cons_succ, Act.put, List.setIfInBounds_toArray, List.set_cons_zero, List.set_cons_succ])
      refine' wpAnyH_take (i := 26) (v := _) rfl (by kernel_rfl) (by kernel_rfl) (by kernel_rfl) (fun _ _ _ h => h) (Or.inr ⟨by rfl, rfl⟩) (by assumption) ?tbq78
      (try simp only [List.getElem_toArray, List.getElem_cons_zero, List.getElem_cons_succ, Act.put, List.setIfInBounds_toArray, List.set_cons_zero, List.set_cons_succ])
      refine' wpAnyH_take (i := 27) (v := _) rfl (by kernel_rfl) (by kernel_rfl) (by kernel_rfl) (fun _ _ _ h => h) (Or.inr ⟨by rfl, rfl⟩) (by assumption) ?tbq79
      (try simp only [List.getElem_toArray, List.getElem_cons_zero, List.getElem_cons_succ, Act.put, List.setIfInBounds_toArray, List.set_cons_zero, List.set_cons_succ])
      refine' wpAnyH_take (i := 28) (v := _) rfl (by kernel_rfl) (by kernel_rfl) (by kernel_rfl) (fun _ _ _ h => h) (Or.inr ⟨by rfl, rfl⟩) (by assumption) ?tbq80
      (try simp only [List.getElem_toArray, List.getElem_cons_zero, List.getElem_cons_succ, Act.put, List.setIfInBounds_toArray, List.set_cons_zero, List.set_cons_succ])
      refine' wpAnyH_take (i := 29) (v := _) rfl (by kernel_rfl) (by kernel_rfl) (by kernel_rfl) (fun _ _ _ h => h) (Or.inl ⟨by rfl, ?taq81⟩) (by assumption) ?tbq81
      case taq81 =>
        intro wS hSw
        (try dsimp only at hSw)
        (have q0 := (hSw.blk (.head _)).strAll HZL.out (by omega); have q1 := (hSw.blk (.tail _ (.head _))).strOwn (n := 32 + 32) HHL.out hcap5 hcm5; have q2 := (hSw.blk (.tail _ (.tail _ (.head _)))).strAll HQL.out (by omega); have q3 := (hSw.blk (.tail _ (.tail _ (.tail _ (.head _))))).strAll HL3.out (by omega); have q4 := (hSw.blk (.tail _ (.tail _ (.tail _ (.tail _ (.head _)))))).strAll HQL.out (by omega); have q5 := (hSw.blk (.tail _ (.tail _ (.tail _ (.tail _ (.tail _ (.head _))))))).strAll HPL.out (by omega); clear hSw; go_simp)
        (try (with_reducible rfl))
      (try simp only [List.getElem_toArray, List.getElem_cons_zero, List.getElem_cons_succ, Act.put, List.setIfInBounds_toArray, List.set_cons_zero, List.set_cons_succ])
      refine' wpAnyH_take (i := 30) (v := _) rfl (by kernel_rfl) (by kernel_rfl) (by kernel_rfl) (fun _ _ _ h => h) (Or.inl ⟨by rfl, ?taq82⟩) (by assumption) ?tbq82
      case taq82 =>
        intro wS hSw
        (try dsimp only at hSw)
        (have q0 := (hSw.blk (.head _)).strAll HZL.out (by omega); have q1 := (hSw.blk (.tail _ (.head _))).strOwn (n := 32 + 32) HHL.out hcap5 hcm5; have q2 := (hSw.blk (.tail _ (.tail _ (.head _)))).strAll HQL.out (by omega); have q3 := (hSw.blk (.tail _ (.tail _ (.tail _ (.head _))))).strAll HL3.out (by omega); have q4 := (hSw.blk (.tail _ (.tail _ (.tail _ (.tail _ (.head _)))))).strAll HQL.out (by omega); have q5 := (hSw.blk (.tail _ (.tail _ (.tail _ (.tail _ (.tail _ (.head _))))))).strAll HPL.out (by omega); clear hSw; go_simp)
        (try (with_reducible rfl))
      (try simp only [List.getElem_toArray, List.getElem_cons_zero, List.getElem_cons_succ, Act.put, List.setIfInBounds_toArray, List.set_cons_zero, List.set_cons_succ])
      refine' wpAnyH_take (i := 31) (v := _) rfl (by kernel_rfl) (by kernel_rfl) (by kernel_rfl) (fun _ _ _ h => h) (Or.inr ⟨by rfl, rfl⟩) (by assumption) ?tbq83
      (try simp only [List.getElem_toArray, List.getElem_cons_zero, List.getElem_cons_succ, Act.put, List.setIfInBounds_toArray, List.set_cons_zero, List.set_cons_succ])
      refine' wpAnyH_take (i := 32) (v := _) rfl (by kernel_rfl) (by kernel_rfl) (by kernel_rfl) (fun _ _ _ h => h) (Or.inr ⟨by rfl, rfl⟩) (by assumption) ?tbq84
      (try simp only [List.getElem_toArray, List.getElem_cons_zero, List.getElem_cons_succ, Act.put, List.setIfInBounds_toArray, List.set_cons_zero, List.set_cons_succ])
      refine' wpAnyH_take (i := 33) (v := _) rfl (by kernel_rfl) (by kernel_rfl) (by kernel_rfl) (fun _ _ _ h => h) (Or.inr ⟨by rfl, rfl⟩) (by assumption) ?tbq85
      (try simp only [List.getElem_toArray, List.getElem_cons_zero, List.getElem_cons_succ, Act.put, List.setIfInBounds_toArray, List.set_cons_zero, List.set_cons_succ])
      refine' wpAnyH_take (i := 34) (v := _) rfl (by kernel_rfl) (by kernel_rfl) (by kernel_rfl) (fun _ _ _ h => h) (Or.inr ⟨by rfl, rfl⟩) (by assumption) ?tbq86
      (try simp only [List.getElem_toArray, List.getElem_cons_zero, List.getElem_cons_succ, Act.put, List.setIfInBounds_toArray, List.set_cons_zero, List.set_cons_succ])
      refine' wpAnyH_take (i := 35) (v := _) rfl (by kernel_rfl) (by kernel_rfl) (by kernel_rfl) (fun _ _ _ h => h) (Or.inr ⟨by rfl, rfl⟩) (by assumption) ?tbq87
      (try simp only [List.getElem_toArray, List.getElem_cons_zero, List.getElem_cons_succ, Act.put, List.setIfInBounds_toArray, List.set_cons_zero, List.set_cons_succ])
      refine' wpAnyH_take (i := 36) (v := _) rfl (by kernel_rfl) (by kernel_rfl) (by kernel_rfl) (fun _ _ _ h => h) (Or.inl ⟨by rfl, ?taq88⟩) (by assumption) ?tbq88
      case taq88 =>
        intro wS hSw
        (try dsimp only at hSw)
        (have q0 := (hSw.blk (.head _)).strAll HZL.out (by omega); have q1 := (hSw.blk (.tail _ (.head _))).strOwn (n := 32 + 32) HHL.out hcap5 hcm5; have q2 := (hSw.blk (.tail _ (.tail _ (.head _)))).strAll HQL.out (by omega); have q3 := (hSw.blk (.tail _ (.tail _ (.tail _ (.head _))))).strAll HL3.out (by omega); have q4 := (hSw.blk (.tail _ (.tail _ (.tail _ (.tail _ (.head _)))))).strAll HQL.out (by omega); have q5 := (hSw.blk (.tail _ (.tail _ (.tail _ (.tail _ (.tail _ (.head _))))))).strAll HPL.out (by omega); clear hSw; go_simp)
        (try (with_reducible rfl))
      (try simp only [List.getElem_toArray, List.getElem_cons_zero, List.getElem_cons_succ, Act.put, List.setIfInBounds_toArray, List.set_cons_zero, List.set_cons_succ])
      refine' wpAnyH_take (i := 37) (v := _) rfl (by kernel_rfl) (by kernel_rfl) (by kernel_rfl) (fun _ _ _ h => h) (Or.inl ⟨by rfl, ?taq89⟩) (by assumption) ?tbq89
      case taq89 =>
        intro wS hSw
        (try dsimp only at hSw)
        (have q0 := (hSw.blk (.head _)).strAll HZL.out (by omega); have q1 := (hSw.blk (.tail _ (.head _))).strOwn (n := 32 + 32) HHL.out hcap5 hcm5; have q2 := (hSw.blk (.tail _ (.tail _ (.head _)))).strAll HQL.out (by omega); have q3 := (hSw.blk (.tail _ (.tail _ (.tail _ (.head _))))).strAll HL3.out (by omega); have q4 := (hSw.blk (.tail _ (.tail _ (.tail _ (.tail _ (.head _)))))).strAll HQL.out (by omega); have q5 := (hSw.blk (.tail _ (.tail _ (.tail _ (.tail _ (.tail _ (.head _))))))).strAll HPL.out (by omega); clear hSw; go_simp)
        (try (with_reducible rfl))
      (try simp only [List.getElem_toArray, List.getElem_cons_zero, List.getElem_cons_succ, Act.put, List.setIfInBounds_toArray, List.set_cons_zero, List.set_cons_succ])
      refine' wpAnyH_take (i := 38) (v := _) rfl (by kernel_rfl) (by kernel_rfl) (by kernel_rfl) (fun _ _ _ h => h) (Or.inl ⟨by rfl, ?taq90⟩) (by assumption) ?tbq90
      case taq90 =>
        intro wS hSw
        (try dsimp only at hSw)
        (have q0 := (hSw.blk (.head _)).strAll HZL.out (by omega); have q1 := (hSw.blk (.tail _ (.head _))).strOwn (n := 32 + 32) HHL.out hcap5 hcm5; have q2 := (hSw.blk (.tail _ (.tail _ (.head _)))).strAll HQL.out (by omega); have q3 := (hSw.blk (.tail _ (.tail _ (.tail _ (.head _))))).strAll HL3.out (by omega); have q4 := (hSw.blk (.tail _ (.tail _ (.tail _ (.tail _ (.head _)))))).strAll HQL.out (by omega); have q5 := (hSw.blk (.tail _ (.tail _ (.tail _ (.tail _ (.tail _ (.head _))))))).strAll HPL.out (by omega); clear hSw; go_simp)
        (try (with_reducible rfl))
      (try simp only [List.getElem_toArray, List.getElem_cons_zero, List.getElem_cons_succ, Act.put, List.setIfInBounds_toArray, List.set_cons_zero, List.set_cons_succ])
      refine' wpAnyH_take (i := 39) (v := _) rfl (by kernel_rfl) (by kernel_rfl) (by kernel_rfl) (fun _ _ _ h => h) (Or.inl ⟨by rfl, ?taq91⟩) (by assumption) ?tbq91
      case taq91 =>
        intro wS hSw
        (try dsimp only at hSw)
        (have q0 := (hSw.blk (.head _)).strAll HZL.out (by omega); have q1 := (hSw.blk (.tail _ (.head _))).strOwn (n := 32 + 32) HHL.out hcap5 hcm5; have q2 := (hSw.blk (.tail _ (.tail _ (.head _)))).strAll HQL.out (by omega); have q3 := (hSw.blk (.tail _ (.tail _ (.tail _ (.head _))))).strAll HL3.out (by omega); have q4 := (hSw.blk (.tail _ (.tail _ (.tail _ (.tail _ (.head _)))))).strAll HQL.out (by omega); have q5 := (hSw.blk (.tail _ (.tail _ (.tail _ (.tail _ (.tail _ (.head _))))))).strAll HPL.out (by omega); clear hSw; go_simp)
        (try (with_reducible rfl))
      (try simp only [List.getElem_toArray, List.getElem_cons_zero, List.getElem_cons_succ, Act.put, List.setIfInBounds_toArray, List.set_cons_zero, List.set_cons_succ])
      refine' wpAnyH_take (i := 40) (v := _) rfl (by kernel_rfl) (by kernel_rfl) (by kernel_rfl) (fun _ _ _ h => h) (Or.inl ⟨by rfl, ?taq92⟩) (by assumption) ?tbq92
      case taq92 =>
        intro wS hSw
        (try dsimp only at hSw)
        (have q0 := (hSw.blk (.head _)).strAll HZL.out (by omega); have q1 := (hSw.blk (.tail _ (.head _))).strOwn (n := 32 + 32) HHL.out hcap5 hcm5; have q2 := (hSw.blk (.tail _ (.tail _ (.head _)))).strAll HQL.out (by omega); have q3 := (hSw.blk (.tail _ (.tail _ (.tail _ (.head _))))).strAll HL3.out (by omega); have q4 := (hSw.blk (.tail _ (.tail _ (.tail _ (.tail _ (.head _)))))).strAll HQL.out (by omega); have q5 := (hSw.blk (.tail _ (.tail _ (.tail _ (.tail _ (.tail _ (.head _))))))).strAll HPL.out (by omega); clear hSw; go_simp)
        (try (with_reducible rfl))
      (try simp only [List.getElem_toArray, List.getElem_cons_zero, List.getElem_cons_succ, Act.put, List.setIfInBounds_toArray, List.set_cons_zero, List.set_cons_succ])
      refine wpAnyH_ready (rs := [41]) (by kernel_rfl) (by simp) ?_
      refine AllReadyH.cons rfl (fun K9 hK9 => ?_) AllReadyH.nil
      (try simp only [List.getElem_toArray, List.getElem_cons_zero, List.getElem_cons_succ])
      go_simp
      refine (ds_full D12.out.drew 0 0 rfl).mono ?_
      rw [HZ.out]
      rintro en we ⟨g7, rfl, h⟩
      have D13 := Lib.hid h
      have D13s := Lib.hid (h.sub (bs' := [(g6, 58, bytesV Z), (g5, 5, bytesV H ++ rest5), (g4, 58, bytesV Q), (g3, 58, bytesV r), (g2, 5, bytesV Q), (g1, 5, bytesV r)]) (fun b hb => .tail _ hb))
      have q7 := (h.blk (.head _)).strAll HZL.out (by omega)
      clear h
      refine hK9.out _ _ (D13s.out) (fun hHeld9 => ?_)
      clear hK9 K9
      (try simp only [List.getElem_toArray, List.getElem_cons_zero, List.getElem_cons_succ, Act.put, List.setIfInBounds_toArray, List.set_cons_zero, List.set_cons_succ])
      refine wpAnyH_ready (rs := [42]) (by kernel_rfl) (by simp) ?_
      refine AllReadyH.cons rfl (fun K9 hK9 => ?_) AllReadyH.nil
      (try simp only [List.getElem_toArray, List.getElem_cons_zero, List.getElem_cons_succ])
      go_simp
      refine hK9.out _ _ (D13s.out) (fun hHeld9 => ?_)
      clear hK9 K9
      (try simp only [List.getElem_toArray, List.getElem_cons_zero, List.getElem_cons_succ, Act.put, List.setIfInBounds_toArray, List.set_cons_zero, List.set_cons_succ])
      refine' wpAnyH_take (i := 43) (v := _) rfl (by kernel_rfl) (by kernel_rfl) (by kernel_rfl) (fun _ _ _ h => h) (Or.inl ⟨by rfl, ?taq93⟩) (by assumption) ?tbq93
      case taq93 =>
        intro wS hSw
        (try dsimp only at hSw)
        (have q0 := (hSw.blk (.head _)).strAll HZL.out (by omega); have q1 := (hSw.blk (.tail _ (.head _))).strOwn (n := 32 + 32) HHL.out hcap5 hcm5; have q2 := (hSw.blk (.tail _ (.tail _ (.head _)))).strAll HQL.out (by omega); have q3 := (hSw.blk (.tail _ (.tail _ (.tail _ (.head _))))).strAll HL3.out (by omega); have q4 := (hSw.blk (.tail _ (.tail _ (.tail _ (.tail _ (.head _)))))).strAll HQL.out (by omega); have q5 := (hSw.blk (.tail _ (.tail _ (.tail _ (.tail _ (.tail _ (.head _))))))).strAll HPL.out (by omega); clear hSw; go_simp)
        (try (with_reducible rfl))
      (try simp only [List.getElem_toArray, List.getElem_cons_zero, List.getElem_cons_succ, Act.put, List.setIfInBounds_toArray, List.set_cons_zero, List.set_cons_succ])
      refine' wpAnyH_take (i := 44) (v := _) rfl (by kernel_rfl) (by kernel_rfl) (by kernel_rfl) (fun _ _ _ h => h) (Or.inl ⟨by rfl, ?taq94⟩) (by assumption) ?tbq94
      case taq94 =>
        intro wS hSw
        (try dsimp only at hSw)
        (have q0 := (hSw.blk (.head _)).strAll HZL.out (by omega); have q1 := (hSw.blk (.tail _ (.head _))).strOwn (n := 32 + 32) HHL.out hcap5 hcm5; have q2 := (hSw.blk (.tail _ (.tail _ (.head _)))).strAll HQL.out (by omega); have q3 := (hSw.blk (.tail _ (.tail _ (.tail _ (.head _))))).strAll HL3.out (by omega); have q4 := (hSw.blk (.tail _ (.tail _ (.tail _ (.tail _ (.head _)))))).strAll HQL.out (by omega); have q5 := (hSw.blk (.tail _ (.tail _ (.tail _ (.tail _ (.tail _ (.head _))))))).strAll HPL.out (by omega); clear hSw; go_simp)
        (try (with_reducible rfl))
      (try simp only [List.getElem_toArray, List.getElem_cons_zero, List.getElem_cons_succ, Act.put, List.setIfInBounds_toArray, List.set_cons_zero, List.set_cons_succ])
      refine' wpAnyH_take (i := 45) (v := _) rfl (by kernel_rfl) (by kernel_rfl) (by kernel_rfl) (fun _ _ _ h => h) (Or.inl ⟨by rfl, ?taq95⟩) (by assumption) ?tbq95
      case taq95 =>
        intro wS hSw
        (try dsimp only at hSw)
        (have q0 := (hSw.blk (.head _)).strAll HZL.out (by omega); have q1 := (hSw.blk (.tail _ (.head _))).strOwn (n := 32 + 32) HHL.out hcap5 hcm5; have q2 := (hSw.blk (.tail _ (.tail _ (.head _)))).strAll HQL.out (by omega); have q3 := (hSw.blk (.tail _ (.tail _ (.tail _ (.head _))))).strAll HL3.out (by omega); have q4 := (hSw.blk (.tail _ (.tail _ (.tail _ (.tail _ (.head _)))))).strAll HQL.out (by omega); have q5 := (hSw.blk (.tail _ (.tail _ (.tail _ (.tail _ (.tail _ (.head _))))))).strAll HPL.out (by omega); clear hSw; go_simp)
        (try (with_reducible rfl))
      (try simp only [List.getElem_toArray, List.getElem_cons_zero, List.getElem_cons_succ, Act.put, List.setIfInBounds_toArray, List.set_cons_zero, List.set_cons_succ])
      refine wpAnyH_ready (rs := [46]) (by kernel_rfl) (by simp) ?_
      refine AllReadyH.cons rfl (fun K9 hK9 => ?_) AllReadyH.nil
      (try simp only [List.getElem_toArray, List.getElem_cons_zero, List.getElem_cons_succ])
      go_simp
      refine (awake5_any we).mono ?_
      rintro en wf ⟨rfl, hbf⟩
      have D14 := Lib.hid (D13s.out.below hbf)
      clear hbf
      refine hK9.out _ _ (D14.out) (fun hHeld9 => ?_)
      clear hK9 K9
      (try simp only [List.getElem_toArray, List.getElem_cons_zero, List.getElem_cons_succ, Act.put, List.setIfInBounds_toArray, List.set_cons_zero, List.set_cons_succ])
      refine' wpAnyH_take (i := 47) (v := _) rfl (by kernel_rfl) (by kernel_rfl) (by kernel_rfl) (fun _ _ _ h => h) (Or.inl ⟨by rfl, ?taq96⟩) (by assumption) ?tbq96
      case taq96 =>
        intro wS hSw
        (try dsimp only at hSw)
        (have q0 := (hSw.blk (.head _)).strAll HZL.out (by omega); have q1 := (hSw.blk (.tail _ (.head _))).strOwn (n := 32 + 32) HHL.out hcap5 hcm5; have q2 := (hSw.blk (.tail _ (.tail _ (.head _)))).strAll HQL.out (by omega); have q3 := (hSw.blk (.tail _ (.tail _ (.tail _ (.head _))))).strAll HL3.out (by omega); have q4 := (hSw.blk (.tail _ (.tail _ (.tail _ (.tail _ (.head _)))))).strAll HQL.out (by omega); have q5 := (hSw.blk (.tail _ (.tail _ (.tail _ (.tail _ (.tail _ (.head _))))))).strAll HPL.out (by omega); clear hSw; go_simp)
        (try (with_reducible rfl))
      (try simp only [List.getElem_toArray, List.getElem_cons_zero, List.getElem_cons_succ, Act.put, List.setIfInBounds_toArray, List.set_cons_zero, List.set_cons_succ])
      refine' wpAnyH_take (i := 48) (v := _) rfl (by kernel_rfl) (by kernel_rfl) (by kernel_rfl) (fun _ _ _ h => h) (Or.inl ⟨by rfl, ?taq97⟩) (by assumption) ?tbq97
      case taq97 =>
        intro wS hSw
        (try dsimp only at hSw)
        (have q0 := (hSw.blk (.head _)).strAll HZL.out (by omega); have q1 := (hSw.blk (.tail _ (.head _))).strOwn (n := 32 + 32) HHL.out hcap5 hcm5; have q2 := (hSw.blk (.tail _ (.tail _ (.head _)))).strAll HQL.out (by omega); have q3 := (hSw.blk (.tail _ (.tail _ (.tail _ (.head _))))).strAll HL3.out (by omega); have q4 := (hSw.blk (.tail _ (.tail _ (.tail _ (.tail _ (.head _)))))).strAll HQL.out (by omega); have q5 := (hSw.blk (.tail _ (.tail _ (.tail _ (.tail _ (.tail _ (.head _))))))).strAll HPL.out (by omega); clear hSw; go_simp)
        (try (with_reducible rfl))
      (try simp only [List.getElem_toArray, List.getElem_cons_zero, List.getElem_cons_succ, Act.put, List.setIfInBounds_toArray, List.set_cons_zero, List.set_cons_succ])
      refine wpAnyH_done (by kernel_rfl) ?_ _
      go_wp2
      go_ret
      exact ⟨rfl, D14.out.bel⟩
    · rcases hr with hr | hr
      · subst hr
        have n1 : (r == P) = false := beq_eq_false_iff_ne.2 hn1
        clear hn1
        refine wp_region_held_drew (S := (fun w' => DS w w' [(d, sD.crash a4)] [(g6, 58, bytesV Z), (g5, 5, bytesV H ++ rest5), (g4, 58, bytesV r), (g3, 58, bytesV r), (g2, 5, bytesV r), (g1, 5, bytesV P)])) (by kernel_rfl) (D12.out.drew) (fun hHeld => ?_)
        refine' wpAnyH_take (i := 0) (v := _) rfl (by kernel_rfl) (by kernel_rfl) (by kernel_rfl) (fun _ _ _ h => h) (Or.inl ⟨by rfl, ?taq98⟩) (by assumption) ?tbq98
        case taq98 =>
          intro wS hSw
          (try dsimp only at hSw)
          (have q0 := (hSw.blk (.head _)).strAll HZL.out (by omega); have q1 := (hSw.blk (.tail _ (.head _))).strOwn (n := 32 + 32) HHL.out hcap5 hcm5; have q2 := (hSw.blk (.tail _ (.tail _ (.head _)))).strAll HQL.out (by omega); have q3 := (hSw.blk (.tail _ (.tail _ (.tail _ (.head _))))).strAll HL3.out (by omega); have q4 := (hSw.blk (.tail _ (.tail _ (.tail _ (.tail _ (.head _)))))).strAll HQL.out (by omega); have q5 := (hSw.blk (.tail _ (.tail _ (.tail _ (.tail _ (.tail _ (.head _))))))).strAll HPL.out (by omega); clear hSw; go_simp)
          (try (with_reducible rfl))
        (try simp only [List.getElem_toArray, List.getElem_cons_zero, List.getElem_cons_succ, Act.put, List.setIfInBounds_toArray, List.set_cons_zero, List.set_cons_succ])
        refine' wpAnyH_take (i := 1) (v := _) rfl (by kernel_rfl) (by kernel_rfl) (by kernel_rfl) (fun _ _ _ h => h) (Or.inl ⟨by rfl, ?taq99⟩) (by assumption) ?tbq99
        case taq99 =>
          intro wS hSw
          (try dsimp only at hSw)
          (have q0 := (hSw.blk (.head _)).strAll HZL.out (by omega); have q1 := (hSw.blk (.tail _ (.head _))).strOwn (n := 32 + 32) HHL.out hcap5 hcm5; have q2 := (hSw.blk (.tail _ (.tail _ (.head _)))).strAll HQL.out (by omega); have q3 := (hSw.blk (.tail _ (.tail _ (.tail _ (.head _))))).strAll HL3.out (by omega); have q4 := (hSw.blk (.tail _ (.tail _ (.tail _ (.tail _ (.head _)))))).strAll HQL.out (by omega); have q5 := (hSw.blk (.tail _ (.tail _ (.tail _ (.tail _ (.tail _ (.head _))))))).strAll HPL.out (by omega); clear hSw; go_simp)
          (try (with_reducible rfl))
        (try simp only [List.getElem_toArray, List.getElem_cons_zero, List.getElem_cons_succ, Act.put, List.setIfInBounds_toArray, List.set_cons_zero, List.set_cons_succ])
        refine' wpAnyH_take (i := 2) (v := _) rfl (by kernel_rfl) (by kernel_rfl) (by kernel_rfl) (fun _ _ _ h => h) (Or.inl ⟨by rfl, ?taq100⟩) (by assumption) ?tbq100
        case taq100 =>
          intro wS hSw
          (try dsimp only at hSw)
          (have q0 := (hSw.blk (.head _)).strAll HZL.out (by omega); have q1 := (hSw.blk (.tail _ (.head _))).strOwn (n := 32 + 32) HHL.out hcap5 hcm5; have q2 := (hSw.blk (.tail _ (.tail _ (.head _)))).strAll HQL.out (by omega); have q3 := (hSw.blk (.tail _ (.tail _ (.tail _ (.head _))))).strAll HL3.out (by omega); have q4 := (hSw.blk (.tail _ (.tail _ (.tail _ (.tail _ (.head _)))))).strAll HQL.out (by omega); have q5 := (hSw.blk (.tail _ (.tail _ (.tail _ (.tail _ (.tail _ (.head _))))))).strAll HPL.out (by omega); clear hSw; go_simp)
          (try (with_reducible rfl))
        (try simp only [List.getElem_toArray, List.getElem_cons_zero, List.getElem_cons_succ, Act.put, List.setIfInBounds_toArray, List.set_cons_zero, List.set_cons_succ])
        refine' wpAnyH_take (i := 3) (v := _) rfl (by kernel_rfl) (by kernel_rfl) (by kernel_rfl) (fun _ _ _ h => h) (Or.inl ⟨by rfl, ?taq101⟩) (by assumption) ?tbq101
        case taq101 =>
          intro wS hSw
          (try dsimp only at hSw)
          (have q0 := (hSw.blk (.head _)).strAll HZL.out (by omega); have q1 := (hSw.blk (.tail _ (.head _))).strOwn (n := 32 + 32) HHL.out hcap5 hcm5; have q2 := (hSw.blk (.tail _ (.tail _ (.head _)))).strAll HQL.out (by omega); have q3 := (hSw.blk (.tail _ (.tail _ (.tail _ (.head _))))).strAll HL3.out (by omega); have q4 := (hSw.blk (.tail _ (.tail _ (.tail _ (.tail _ (.head _)))))).strAll HQL.out (by omega); have q5 := (hSw.blk (.tail _ (.tail _ (.tail _ (.tail _ (.tail _ (.head _))))))).strAll HPL.out (by omega); clear hSw; go_simp)
          (try (with_reducible rfl))
        (try simp only [List.getElem_toArray, List.getElem_cons_zero, List.getElem_cons_succ, Act.put, List.setIfInBounds_toArray, List.set_cons_zero, List.set_cons_succ])
        refine' wpAnyH_take (i := 4) (v := _) rfl (by kernel_rfl) (by kernel_rfl) (by kernel_rfl) (fun _ _ _ h => h) (Or.inl ⟨by rfl, ?taq102⟩) (by assumption) ?tbq102
        case taq102 =>
          intro wS hSw
          (try dsimp only at hSw)
          (have q0 := (hSw.blk (.head _)).strAll HZL.out (by omega); have q1 := (hSw.blk (.tail _ (.head _))).strOwn (n := 32 + 32) HHL.out hcap5 hcm5; have q2 := (hSw.blk (.tail _ (.tail _ (.head _)))).strAll HQL.out (by omega); have q3 := (hSw.blk (.tail _ (.tail _ (.tail _ (.head _))))).strAll HL3.out (by omega); have q4 := (hSw.blk (.tail _ (.tail _ (.tail _ (.tail _ (.head _)))))).strAll HQL.out (by omega); have q5 := (hSw.blk (.tail _ (.tail _ (.tail _ (.tail _ (.tail _ (.head _))))))).strAll HPL.out (by omega); clear hSw; go_simp)
          (try (with_reducible rfl))
        (try simp only [List.getElem_toArray, List.getElem_cons_zero, List.getElem_cons_succ, Act.put, List.setIfInBounds_toArray, List.set_cons_zero, List.set_cons_succ])
        refine' wpAnyH_take (i := 5) (v := _) rfl (by kernel_rfl) (by kernel_rfl) (by kernel_rfl) (fun _ _ _ h => h) (Or.inl ⟨by rfl, ?taq103⟩) (by assumption) ?tbq103
        case taq103 =>
          intro wS hSw
          (try dsimp only at hSw)
          (have q0 := (hSw.blk (.head _)).strAll HZL.out (by omega); have q1 := (hSw.blk (.tail _ (.head _))).strOwn (n := 32 + 32) HHL.out hcap5 hcm5; have q2 := (hSw.blk (.tail _ (.tail _ (.head _)))).strAll HQL.out (by omega); have q3 := (hSw.blk (.tail _ (.tail _ (.tail _ (.head _))))).strAll HL3.out (by omega); have q4 := (hSw.blk (.tail _ (.tail _ (.tail _ (.tail _ (.head _)))))).strAll HQL.out (by omega); have q5 := (hSw.blk (.tail _ (.tail _ (.tail _ (.tail _ (.tail _ (.head _))))))).strAll HPL.out (by omega); clear hSw; go_simp)
          (try (with_reducible rfl))
        (try simp only [List.getElem_toArray, List.getElem_cons_zero, List.getElem_cons_succ, Act.put, List.setIfInBounds_toArray, List.set_cons_zero, List.set_cons_succ])
        refine' wpAnyH_take (i := 6) (v := _) rfl (by kernel_rfl) (by kernel_rfl) (by kernel_rfl) (fun _ _ _ h => h) (Or.inl ⟨by rfl, ?taq104⟩) (by assumption) ?tbq104
        case taq104 =>
          intro wS hSw
          (try dsimp only at hSw)
          (have q0 := (hSw.blk (.head _)).strAll HZL.out (by omega); have q1 := (hSw.blk (.tail _ (.head _))).strOwn (n := 32 + 32) HHL.out hcap5 hcm5; have q2 := (hSw.blk (.tail _ (.tail _ (.head _)))).strAll HQL.out (by omega); have q3 := (hSw.blk (.tail _ (.tail _ (.tail _ (.head _))))).strAll HL3.out (by omega); have q4 := (hSw.blk (.tail _ (.tail _ (.tail _ (.tail _ (.head _)))))).strAll HQL.out (by omega); have q5 := (hSw.blk (.tail _ (.tail _ (.tail _ (.tail _ (.tail _ (.head _))))))).strAll HPL.out (by omega); clear hSw; go_simp)
          (try (with_reducible rfl))
        (try simp only [List.getElem_toArray, List.getElem_cons_zero, List.getElem_cons_succ, Act.put, List.setIfInBounds_toArray, List.set_cons_zero, List.set_cons_succ])
        refine' wpAnyH_take (i := 7) (v := _) rfl (by kernel_rfl) (by kernel_rfl) (by kernel_rfl) (fun _ _ _ h => h) (Or.inl ⟨by rfl, ?taq105⟩) (by assumption) ?tbq105
        case taq105 =>
          intro wS hSw
          (try dsimp only at hSw)
          (have q0 := (hSw.blk (.head _)).strAll HZL.out (by omega); have q1 := (hSw.blk (.tail _ (.head _))).strOwn (n := 32 + 32) HHL.out hcap5 hcm5; have q2 := (hSw.blk (.tail _ (.tail _ (.head _)))).strAll HQL.out (by omega); have q3 := (hSw.blk (.tail _ (.tail _ (.tail _ (.head _))))).strAll HL3.out (by omega); have q4 := (hSw.blk (.tail _ (.tail _ (.tail _ (.tail _ (.head _)))))).strAll HQL.out (by omega); have q5 := (hSw.blk (.tail _ (.tail _ (.tail _ (.tail _ (.tail _ (.head _))))))).strAll HPL.out (by omega); clear hSw; go_simp)
          (try (with_reducible rfl))
        (try simp only [List.getElem_toArray, List.getElem_cons_zero, List.getElem_cons_succ, Act.put, List.setIfInBounds_toArray, List.set_cons_zero, List.set_cons_succ])
        refine' wpAnyH_take (i := 8) (v := _) rfl (by kernel_rfl) (by kernel_rfl) (by kernel_rfl) (fun _ _ _ h => h) (Or.inl ⟨by rfl, ?taq106⟩) (by assumption) ?tbq106
        case taq106 =>
          intro wS hSw
          (try dsimp only at hSw)
          (have q0 := (hSw.blk (.head _)).strAll HZL.out (by omega); have q1 := (hSw.blk (.tail _ (.head _))).strOwn (n := 32 + 32) HHL.out hcap5 hcm5; have q2 := (hSw.blk (.tail _ (.tail _ (.head _)))).strAll HQL.out (by omega); have q3 := (hSw.blk (.tail _ (.tail _ (.tail _ (.head _))))).strAll HL3.out (by omega); have q4 := (hSw.blk (.tail _ (.tail _ (.tail _ (.tail _ (.head _)))))).strAll HQL.out (by omega); have q5 := (hSw.blk (.tail _ (.tail _ (.tail _ (.tail _ (.tail _ (.head _))))))).strAll HPL.out (by omega); clear hSw; go_simp)
          (try (with_reducible rfl))
        (try simp only [List.getElem_toArray, List.getElem_cons_zero, List.getElem_cons_succ, Act.put, List.setIfInBounds_toArray, List.set_cons_zero, List.set_cons_succ])
        refine' wpAnyH_take (i := 9) (v := _) rfl (by kernel_rfl) (by kernel_rfl) (by kernel_rfl) (fun _ _ _ h => h) (Or.inl ⟨by rfl, ?taq107⟩) (by assumption) ?tbq107
        case taq107 =>
          intro wS hSw
          (try dsimp only at hSw)
          (have q0 := (hSw.blk (.head _)).strAll HZL.out (by omega); have q1 := (hSw.blk (.tail _ (.head _))).strOwn (n := 32 + 32) HHL.out hcap5 hcm5; have q2 := (hSw.blk (.tail _ (.tail _ (.head _)))).strAll HQL.out (by omega); have q3 := (hSw.blk (.tail _ (.tail _ (.tail _ (.head _))))).strAll HL3.out (by omega); have q4 := (hSw.blk (.tail _ (.tail _ (.tail _ (.tail _ (.head _)))))).strAll HQL.out (by omega); have q5 := (hSw.blk (.tail _ (.tail _ (.tail _ (.tail _ (.tail _ (.head _))))))).strAll HPL.out (by omega); clear hSw; go_simp)
          (try (with_reducible rfl))
        (try simp only [List.getElem_toArray, List.getElem_cons_zero, List.getElem_cons_succ, Act.put, List.setIfInBounds_toArray, List.set_cons_zero, List.set_cons_succ])
        refine' wpAnyH_take (i := 10) (v := _) rfl (by kernel_rfl) (by kernel_rfl) (by kernel_rfl) (fun _ _ _ h => h) (Or.inl ⟨by rfl, ?taq108⟩) (by assumption) ?tbq108
        case taq108 =>
          intro wS hSw
          (try dsimp only at hSw)
          (have q0 := (hSw.blk (.head _)).strAll HZL.out (by omega); have q1 := (hSw.blk (.tail _ (.head _))).strOwn (n := 32 + 32) HHL.out hcap5 hcm5; have q2 := (hSw.blk (.tail _ (.tail _ (.head _)))).strAll HQL.out (by omega); have q3 := (hSw.blk (.tail _ (.tail _ (.tail _ (.head _))))).strAll HL3.out (by omega); have q4 := (hSw.blk (.tail _ (.tail _ (.tail _ (.tail _ (.head _)))))).strAll HQL.out (by omega); have q5 := (hSw.blk (.tail _ (.tail _ (.tail _ (.tail _ (.tail _ (.head _))))))).strAll HPL.out (by omega); clear hSw; go_simp)
          (try (with_reducible rfl))
        (try simp only [List.getElem_toArray, List.getElem_cons_zero, List.getElem_cons_succ, Act.put, List.setIfInBounds_toArray, List.set_cons_zero, List.set_cons_succ])
        refine' wpAnyH_take (i := 11) (v := _) rfl (by kernel_rfl) (by kernel_rfl) (by kernel_rfl) (fun _ _ _ h => h) (Or.inl ⟨by rfl, ?taq109⟩) (by assumption) ?tbq109
        case taq109 =>
          intro wS hSw
          (try dsimp only at hSw)
          (have q0 := (hSw.blk (.head _)).strAll HZL.out (by omega); have q1 := (hSw.blk (.tail _ (.head _))).strOwn (n := 32 + 32) HHL.out hcap5 hcm5; have q2 := (hSw.blk (.tail _ (.tail _ (.head _)))).strAll HQL.out (by omega); have q3 := (hSw.blk (.tail _ (.tail _ (.tail _ (.head _))))).strAll HL3.out (by omega); have q4 := (hSw.blk (.tail _ (.tail _ (.tail _ (.tail _ (.head _)))))).strAll HQL.out (by omega); have q5 := (hSw.blk (.tail _ (.tail _ (.tail _ (.tail _ (.tail _ (.head _))))))).strAll HPL.out (by omega); clear hSw; go_simp)
          (try (with_reducible rfl))
        (try simp only [List.getElem_toArray, List.getElem_cons_zero, List.getElem_cons_succ, Act.put, List.setIfInBounds_toArray, List.set_cons_zero, List.set_cons_succ])
        refine' wpAnyH_take (i := 12) (v := _) rfl (by kernel_rfl) (by kernel_rfl) (by kernel_rfl) (fun _ _ _ h => h) (Or.inl ⟨by rfl, ?taq110⟩) (by assumption) ?tbq110
        case taq110 =>
          intro wS hSw
          (try dsimp only at hSw)
          (have q0 := (hSw.blk (.head _)).strAll HZL.out (by omega); have q1 := (hSw.blk (.tail _ (.head _))).strOwn (n := 32 + 32) HHL.out hcap5 hcm5; have q2 := (hSw.blk (.tail _ (.tail _ (.head _)))).strAll HQL.out (by omega); have q3 := (hSw.blk (.tail _ (.tail _ (.tail _ (.head _))))).strAll HL3.out (by omega); have q4 := (hSw.blk (.tail _ (.tail _ (.tail _ (.tail _ (.head _)))))).strAll HQL.out (by omega); have q5 := (hSw.blk (.tail _ (.tail _ (.tail _ (.tail _ (.tail _ (.head _))))))).strAll HPL.out (by omega); clear hSw; go_simp)
          (try (with_reducible rfl))
        (try simp only [List.getElem_toArray, List.getElem_cons_zero, List.getElem_cons_succ, Act.put, List.setIfInBounds_toArray, List.set_cons_zero, List.set_cons_succ])
        refine' wpAnyH_take (i := 13) (v := _) rfl (by kernel_rfl) (by kernel_rfl) (by kernel_rfl) (fun _ _ _ h => h) (Or.inl ⟨by rfl, ?taq111⟩) (by assumption) ?tbq111
        case taq111 =>
          intro wS hSw
          (try dsimp only at hSw)
          (have q0 := (hSw.blk (.head _)).strAll HZL.out (by omega); have q1 := (hSw.blk (.tail _ (.head _))).strOwn (n := 32 + 32) HHL.out hcap5 hcm5; have q2 := (hSw.blk (.tail _ (.tail _ (.head _)))).strAll HQL.out (by omega); have q3 := (hSw.blk (.tail _ (.tail _ (.tail _ (.head _))))).strAll HL3.out (by omega); have q4 := (hSw.blk (.tail _ (.tail _ (.tail _ (.tail _ (.head _)))))).strAll HQL.out (by omega); have q5 := (hSw.blk (.tail _ (.tail _ (.tail _ (.tail _ (.tail _ (.head _))))))).strAll HPL.out (by omega); clear hSw; go_simp)
          (try (with_reducible rfl))
        (try simp only [List.getElem_toArray, List.getElem_cons_zero, List.getElem_cons_succ, Act.put, List.setIfInBounds_toArray, List.set_cons_zero, List.set_cons_succ])
        refine' wpAnyH_take (i := 14) (v := _) rfl (by kernel_rfl) (by kernel_rfl) (by kernel_rfl) (fun _ _ _ h => h) (Or.inl ⟨by rfl, ?taq112⟩) (by assumption) ?tbq112
        case taq112 =>
          intro wS hSw
          (try dsimp only at hSw)
          (have q0 := (hSw.blk (.head _)).strAll HZL.out (by omega); have q1 := (hSw.blk (.tail _ (.head _))).strOwn (n := 32 + 32) HHL.out hcap5 hcm5; have q2 := (hSw.blk (.tail _ (.tail _ (.head _)))).strAll HQL.out (by omega); have q3 := (hSw.blk (.tail _ (.tail _ (.tail _ (.head _))))).strAll HL3.out (by omega); have q4 := (hSw.blk (.tail _ (.tail _ (.tail _ (.tail _ (.head _)))))).strAll HQL.out (by omega); have q5 := (hSw.blk (.tail _ (.tail _ (.tail _ (.tail _ (.tail _ (.head _))))))).strAll HPL.out (by omega); clear hSw; go_simp)
          (try (with_reducible rfl))
        (try simp only [List.getElem_toArray, List.getElem_cons_zero, List.getElem_cons_succ, Act.put, List.setIfInBounds_toArray, List.set_cons_zero, List.set_cons_succ])
        refine' wpAnyH_take (i := 15) (v := _) rfl (by kernel_rfl) (by kernel_rfl) (by kernel_rfl) (fun _ _ _ h => h) (Or.inl ⟨by rfl, ?taq113⟩) (by assumption) ?tbq113
        case taq113 =>
          intro wS hSw
          (try dsimp only at hSw)
          (have q0 := (hSw.blk (.head _)).strAll HZL.out (by omega); have q1 := (hSw.blk (.tail _ (.head _))).strOwn (n := 32 + 32) HHL.out hcap5 hcm5; have q2 := (hSw.blk (.tail _ (.tail _ (.head _)))).strAll HQL.out (by omega); have q3 := (hSw.blk (.tail _ (.tail _ (.tail _ (.head _))))).strAll HL3.out (by omega); have q4 := (hSw.blk (.tail _ (.tail _ (.tail _ (.tail _ (.head _)))))).strAll HQL.out (by omega); have q5 := (hSw.blk (.tail _ (.tail _ (.tail _ (.tail _ (.tail _ (.head _))))))).strAll HPL.out (by omega); clear hSw; go_simp)
          (try (with_reducible rfl))
        (try simp only [List.getElem_toArray, List.getElem_cons_zero, List.getElem_cons_succ, Act.put, List.setIfInBounds_toArray, List.set_cons_zero, List.set_cons_succ])
        refine' wpAnyH_take (i := 16) (v := _) rfl (by kernel_rfl) (by kernel_rfl) (by kernel_rfl) (fun _ _ _ h => h) (Or.inl ⟨by rfl, ?taq114⟩) (by assumption) ?tbq114
        case taq114 =>
          intro wS hSw
          (try dsimp only at hSw)
          (have q0 := (hSw.blk (.head _)).strAll HZL.out (by omega); have q1 := (hSw.blk (.tail _ (.head _))).strOwn (n := 32 + 32) HHL.out hcap5 hcm5; have q2 := (hSw.blk (.tail _ (.tail _ (.head _)))).strAll HQL.out (by omega); have q3 := (hSw.blk (.tail _ (.tail _ (.tail _ (.head _))))).strAll HL3.out (by omega); have q4 := (hSw.blk (.tail _ (.tail _ (.tail _ (.tail _ (.head _)))))).strAll HQL.out (by omega); have q5 := (hSw.blk (.tail _ (.tail _ (.tail _ (.tail _ (.tail _ (.head _))))))).strAll HPL.out (by omega); clear hSw; go_simp)
          (try (with_reducible rfl))
        (try simp only [List.getElem_toArray, List.getElem_cons_zero, List.getElem_cons_succ, Act.put, List.setIfInBounds_toArray, List.set_cons_zero, List.set_cons_succ])
        refine' wpAnyH_take (i := 17) (v := _) rfl (by kernel_rfl) (by kernel_rfl) (by kernel_rfl) (fun _ _ _ h => h) (Or.inl ⟨by rfl, ?taq115⟩) (by assumption) ?tbq115
        case taq115 =>
          intro wS hSw
          (try dsimp only at hSw)
          (have q0 := (hSw.blk (.head _)).strAll HZL.out (by omega); have q1 := (hSw.blk (.tail _ (.head _))).strOwn (n := 32 + 32) HHL.out hcap5 hcm5; have q2 := (hSw.blk (.tail _ (.tail _ (.head _)))).strAll HQL.out (by omega); have q3 := (hSw.blk (.tail _ (.tail _ (.tail _ (.head _))))).strAll HL3.out (by omega); have q4 := (hSw.blk (.tail _ (.tail _ (.tail _ (.tail _ (.head _)))))).strAll HQL.out (by omega); have q5 := (hSw.blk (.tail _ (.tail _ (.tail _ (.tail _ (.tail _ (.head _))))))).strAll HPL.out (by omega); clear hSw; go_simp)
          (try (with_reducible rfl))
        (try simp only [List.getElem_toArray, List.getElem_cons_zero, List.getElem_cons_succ, Act.put, List.setIfInBounds_toArray, List.set_cons_zero, List.set_cons_succ])
        refine' wpAnyH_take (i := 18) (v := _) rfl (by kernel_rfl) (by kernel_rfl) (by kernel_rfl) (fun _ _ _ h => h) (Or.inl ⟨by rfl, ?taq116⟩) (by assumption) ?tbq116
        case taq116 =>
          intro wS hSw
          (try dsimp only at hSw)
          (have q0 := (hSw.blk (.head _)).strAll HZL.out (by omega); have q1 := (hSw.blk (.tail _ (.head _))).strOwn (n := 32 + 32) HHL.out hcap5 hcm5; have q2 := (hSw.blk (.tail _ (.tail _ (.head _)))).strAll HQL.out (by omega); have q3 := (hSw.blk (.tail _ (.tail _ (.tail _ (.head _))))).strAll HL3.out (by omega); have q4 := (hSw.blk (.tail _ (.tail _ (.tail _ (.tail _ (.head _)))))).strAll HQL.out (by omega); have q5 := (hSw.blk (.tail _ (.tail _ (.tail _ (.tail _ (.tail _ (.head _))))))).strAll HPL.out (by omega); clear hSw; go_simp)
          (try (with_reducible rfl))
        (try simp only [List.getElem_toArray, List.getElem_cons_zero, List.getElem_cons_succ, Act.put, List.setIfInBounds_toArray, List.set_cons_zero, List.set_cons_succ])
        refine' wpAnyH_take (i := 19) (v := _) rfl (by kernel_rfl) (by kernel_rfl) (by kernel_rfl) (fun _ _ _ h => h) (Or.inl ⟨by rfl, ?taq117⟩) (by assumption) ?tbq117
        case taq117 =>
          intro wS hSw
          (try dsimp only at hSw)
          (have q0 := (hSw.blk (.head _)).strAll HZL.out (by omega); have q1 := (hSw.blk (.tail _ (.head _))).strOwn (n := 32 + 32) HHL.out hcap5 hcm5; have q2 := (hSw.blk (.tail _ (.tail _ (.head _)))).strAll HQL.out (by omega); have q3 := (hSw.blk (.tail _ (.tail _ (.tail _ (.head _))))).strAll HL3.out (by omega); have q4 := (hSw.blk (.tail _ (.tail _ (.tail _ (.tail _ (.head _)))))).strAll HQL.out (by omega); have q5 := (hSw.blk (.tail _ (.tail _ (.tail _ (.tail _ (.tail _ (.head _))))))).strAll HPL.out (by omega); clear hSw; go_simp)
          (try (with_reducible rfl))
        (try simp only [List.getElem_toArray, List.getElem_cons_zero, List.getElem_cons_succ, Act.put, List.setIfInBounds_toArray, List.set_cons_zero, List.set_cons_succ])
        refine' wpAnyH_take (i := 20) (v := _) rfl (by kernel_rfl) (by kernel_rfl) (by kernel_rfl) (fun _ _ _ h => h) (Or.inl ⟨by rfl, ?taq118⟩) (by assumption) ?tbq118
        case taq118 =>
          intro wS hSw
          (try dsimp only at hSw)
          (have q0 := (hSw.blk (.head _)).strAll HZL.out (by omega); have q1 := (hSw.blk (.tail _ (.head _))).strOwn (n := 32 + 32) HHL.out hcap5 hcm5; have q2 := (hSw.blk (.tail _ (.tail _ (.head _)))).strAll HQL.out (by omega); have q3 := (hSw.blk (.tail _ (.tail _ (.tail _ (.head _))))).strAll HL3.out (by omega); have q4 := (hSw.blk (.tail _ (.tail _ (.tail _ (.tail _ (.head _)))))).strAll HQL.out (by omega); have q5 := (hSw.blk (.tail _ (.tail _ (.tail _ (.tail _ (.tail _ (.head _))))))).strAll HPL.out (by omega); clear hSw; go_simp)
          (try (with_reducible rfl))
        (try simp only [List.getElem_toArray, List.getElem_cons_zero, List.getElem_cons_succ, Act.put, List.setIfInBounds_toArray, List.set_cons_zero, List.set_cons_succ])
        refine' wpAnyH_take (i := 21) (v := _) rfl (by kernel_rfl) (by kernel_rfl) (by kernel_rfl) (fun _ _ _ h => h) (Or.inl ⟨by rfl, ?taq119⟩) (by assumption) ?tbq119
        case taq119 =>
          intro wS hSw
          (try dsimp only at hSw)
          (have q0 := (hSw.blk (.head _)).strAll HZL.out (by omega); have q1 := (hSw.blk (.tail _ (.head _))).strOwn (n := 32 + 32) HHL.out hcap5 hcm5; have q2 := (hSw.blk (.tail _ (.tail _ (.head _)))).strAll HQL.out (by omega); have q3 := (hSw.blk (.tail _ (.tail _ (.tail _ (.head _))))).strAll HL3.out (by omega); have q4 := (hSw.blk (.tail _ (.tail _ (.tail _ (.tail _ (.head _)))))).strAll HQL.out (by omega); have q5 := (hSw.blk (.tail _ (.tail _ (.tail _ (.tail _ (.tail _ (.head _))))))).strAll HPL.out (by omega); clear hSw; go_simp)
          (try (with_reducible rfl))
        (try simp only [List.getElem_toArray, List.getElem_cons_zero, List.getElem_cons_succ, Act.put, List.setIfInBounds_toArray, List.set_cons_zero, List.set_cons_succ])
        refine' wpAnyH_take (i := 22) (v := _) rfl (by kernel_rfl) (by kernel_rfl) (by kernel_rfl) (fun _ _ _ h => h) (Or.inl ⟨by rfl, ?taq120⟩) (by assumption) ?tbq120
        case taq120 =>
          intro wS hSw
          (try dsimp only at hSw)
          (have q0 := (hSw.blk (.head _)).strAll HZL.out (by omega); have q1 := (hSw.blk (.tail _ (.head _))).strOwn (n := 32 + 32) HHL.out hcap5 hcm5; have q2 := (hSw.blk (.tail _ (.tail _ (.head _)))).strAll HQL.out (by omega); have q3 := (hSw.blk (.tail _ (.tail _ (.tail _ (.head _))))).strAll HL3.out (by omega); have q4 := (hSw.blk (.tail _ (.tail _ (.tail _ (.tail _ (.head _)))))).strAll HQL.out (by omega); have q5 := (hSw.blk (.tail _ (.tail _ (.tail _ (.tail _ (.tail _ (.head _))))))).strAll HPL.out (by omega); clear hSw; go_simp)
          (try (with_reducible rfl))
        (try simp only [List.getElem_toArray, List.getElem_cons_zero, List.getElem_cons_succ, Act.put, List.setIfInBounds_toArray, List.set_cons_zero, List.set_cons_succ])
        refine' wpAnyH_take (i := 23) (v := _) rfl (by kernel_rfl) (by kernel_rfl) (by kernel_rfl) (fun _ _ _ h => h) (Or.inl ⟨by rfl, ?taq121⟩) (by assumption) ?tbq121
        case taq121 =>
          intro wS hSw
          (try dsimp only at hSw)
          (have q0 := (hSw.blk (.head _)).strAll HZL.out (by omega); have q1 := (hSw.blk (.tail _ (.head _))).strOwn (n := 32 + 32) HHL.out hcap5 hcm5; have q2 := (hSw.blk (.tail _ (.tail _ (.head _)))).strAll HQL.out (by omega); have q3 := (hSw.blk (.tail _ (.tail _ (.tail _ (.head _))))).strAll HL3.out (by omega); have q4 := (hSw.blk (.tail _ (.tail _ (.tail _ (.tail _ (.head _)))))).strAll HQL.out (by omega); have q5 := (hSw.blk (.tail _ (.tail _ (.tail _ (.tail _ (.tail _ (.head _))))))).strAll HPL.out (by omega); clear hSw; go_simp)
          (try (with_reducible rfl))
        (try simp only [List.getElem_toArray, List.getElem_cons_zero, List.getElem_cons_succ, Act.put, List.setIfInBounds_toArray, List.set_cons_zero, List.set_cons_succ])
        refine' wpAnyH_take (i := 24) (v := _) rfl (by kernel_rfl) (by kernel_rfl) (by kernel_rfl) (fun _ _ _ h => h) (Or.inl ⟨by rfl, ?taq122⟩) (by assumption) ?tbq122
        case taq122 =>
          intro wS hSw
          (try dsimp only at hSw)
          (have q0 := (hSw.blk (.head _)).strAll HZL.out (by omega); have q1 := (hSw.blk (.tail _ (.head _))).strOwn (n := 32 + 32) HHL.out hcap5 hcm5; have q2 := (hSw.blk (.tail _ (.tail _ (.head _)))).strAll HQL.out (by omega); have q3 := (hSw.blk (.tail _ (.tail _ (.tail _ (.head _))))).strAll HL3.out (by omega); have q4 := (hSw.blk (.tail _ (.tail _ (.tail _ (.tail _ (.head _)))))).strAll HQL.out (by omega); have q5 := (hSw.blk (.tail _ (.tail _ (.tail _ (.tail _ (.tail _ (.head _))))))).strAll HPL.out (by omega); clear hSw; go_simp)
          (try (with_reducible rfl))
        (try simp only [List.getElem_toArray, List.getElem_cons_zero, List.getElem_cons_succ, Act.put, List.setIfInBounds_toArray, List.set_cons_zero, List.set_cons_succ])
        refine' wpAnyH_take (i := 25) (v := _) rfl (by kernel_rfl) (by kernel_rfl) (by kernel_rfl) (fun _ _ _ h => h) (Or.inl ⟨by rfl, ?taq123⟩) (by assumption) ?tbq123
        case taq123 =>
          intro wS hSw
          (try dsimp only at hSw)
          (have q0 := (hSw.blk (.head _)).strAll HZL.out (by omega); have q1 := (hSw.blk (.tail _ (.head _))).strOwn (n := 32 + 32) HHL.out hcap5 hcm5; have q2 := (hSw.blk (.tail _ (.tail _ (.head _)))).strAll HQL.out (by omega); have q3 := (hSw.blk (.tail _ (.tail _ (.tail _ (.head _))))).strAll HL3.out (by omega); have q4 := (hSw.blk (.tail _ (.tail _ (.tail _ (.tail _ (.head _)))))).strAll HQL.out (by omega); have q5 := (hSw.blk (.tail _ (.tail _ (.tail _ (.tail _ (.tail _ (.head _))))))).strAll HPL.out (by omega); clear hSw; go_simp)
          (try (with_reducible rfl))
        (try simp only [List.getElem_toArray, List.getElem_cons_zero, List.getElem_cons_succ, Act.put, List.setIfInBounds_toArray, List.set_cons_zero, List.set_cons_succ])
        refine' wpAnyH_take (i := 26) (v := _) rfl (by kernel_rfl) (by kernel_rfl) (by kernel_rfl) (fun _ _ _ h => h) (Or.inl ⟨by rfl, ?taq124⟩) (by assumption) ?tbq124
        case taq124 =>
          intro wS hSw
          (try dsimp only at hSw)
          (have q0 := (hSw.blk (.head _)).strAll HZL.out (by omega); have q1 := (hSw.blk (.tail _ (.head _))).strOwn (n := 32 + 32) HHL.out hcap5 hcm5; have q2 := (hSw.blk (.tail _ (.tail _ (.head _)))).strAll HQL.out (by omega); have q3 := (hSw.blk (.tail _ (.tail _ (.tail _ (.head _))))).strAll HL3.out (by omega); have q4 := (hSw.blk (.tail _ (.tail _ (.tail _ (.tail _ (.head _)))))).strAll HQL.out (by omega); have q5 := (hSw.blk (.tail _ (.tail _ (.tail _ (.tail _ (.tail _ (.head _))))))).strAll HPL.out (by omega); clear hSw; go_simp)
          (try (with_reducible rfl))
        (try simp only [List.getElem_toArray, List.getElem_cons_zero, List.getElem_cons_succ, Act.put, List.setIfInBounds_toArray, List.set_cons_zero, List.set_cons_succ])
        refine' wpAnyH_take (i := 27) (v := _) rfl (by kernel_rfl) (by kernel_rfl) (by kernel_rfl) (fun _ _ _ h => h) (Or.inl ⟨by rfl, ?taq125⟩) (by assumption) ?tbq125
        case taq125 =>
          intro wS hSw
          (try dsimp only at hSw)
          (have q0 := (hSw.blk (.head _)).strAll HZL.out (by omega); have q1 := (hSw.blk (.tail _ (.head _))).strOwn (n := 32 + 32) HHL.out hcap5 hcm5; have q2 := (hSw.blk (.tail _ (.tail _ (.head _)))).strAll HQL.out (by omega); have q3 := (hSw.blk (.tail _ (.tail _ (.tail _ (.head _))))).strAll HL3.out (by omega); have q4 := (hSw.blk (.tail _ (.tail _ (.tail _ (.tail _ (.head _)))))).strAll HQL.out (by omega); have q5 := (hSw.blk (.tail _ (.tail _ (.tail _ (.tail _ (.tail _ (.head _))))))).strAll HPL.out (by omega); clear hSw; go_simp)
          (try (with_reducible rfl))
        (try simp only [List.getElem_toArray, List.getElem_cons_zero, List.getElem_cons_succ, Act.put, List.setIfInBounds_toArray, List.set_cons_zero, List.set_cons_succ])
        refine' wpAnyH_take (i := 28) (v := _) rfl (by kernel_rfl) (by kernel_rfl) (by kernel_rfl) (fun _ _ _ h => h) (Or.inl ⟨by rfl, ?taq126⟩) (by assumption) ?tbq126
        case taq126 =>
          intro wS hSw
          (try dsimp only at hSw)
          (have q0 := (hSw.blk (.head _)).strAll HZL.out (by omega); have q1 := (hSw.blk (.tail _ (.head _))).strOwn (n := 32 + 32) HHL.out hcap5 hcm5; have q2 := (hSw.blk (.tail _ (.tail _ (.head _)))).strAll HQL.out (by omega); have q3 := (hSw.blk (.tail _ (.tail _ (.tail _ (.head _))))).strAll HL3.out (by omega); have q4 := (hSw.blk (.tail _ (.tail _ (.tail _ (.tail _ (.head _)))))).strAll HQL.out (by omega); have q5 := (hSw.blk (.tail _ (.tail _ (.tail _ (.tail _ (.tail _ (.head _))))))).strAll HPL.out (by omega); clear hSw; go_simp)
          (try (with_reducible rfl))
        (try simp only [List.getElem_toArray, List.getElem_cons_zero, List.getElem_cons_succ, Act.put, List.setIfInBounds_toArray, List.set_cons_zero, List.set_cons_succ])
        refine' wpAnyH_take (i := 29) (v := _) rfl (by kernel_rfl) (by kernel_rfl) (by kernel_rfl) (fun _ _ _ h => h) (Or.inl ⟨by rfl, ?taq127⟩) (by assumption) ?tbq127
        case taq127 =>
          intro wS hSw
          (try dsimp only at hSw)
          (have q0 := (hSw.blk (.head _)).strAll HZL.out (by omega); have q1 := (hSw.blk (.tail _ (.head _))).strOwn (n := 32 + 32) HHL.out hcap5 hcm5; have q2 := (hSw.blk (.tail _ (.tail _ (.head _)))).strAll HQL.out (by omega); have q3 := (hSw.blk (.tail _ (.tail _ (.tail _ (.head _))))).strAll HL3.out (by omega); have q4 := (hSw.blk (.tail _ (.tail _ (.tail _ (.tail _ (.head _)))))).strAll HQL.out (by omega); have q5 := (hSw.blk (.tail _ (.tail _ (.tail _ (.tail _ (.tail _ (.head _))))))).strAll HPL.out (by omega); clear hSw; go_simp)
          (try (with_reducible rfl))
        (try simp only [List.getElem_toArray, List.getElem_cons_zero, List.getElem_cons_succ, Act.put, List.setIfInBounds_toArray, List.set_cons_zero, List.set_cons_succ])
        refine' wpAnyH_take (i := 30) (v := _) rfl (by kernel_rfl) (by kernel_rfl) (by kernel_rfl) (fun _ _ _ h => h) (Or.inl ⟨by rfl, ?taq128⟩) (by assumption) ?tbq128
        case taq128 =>
          intro wS hSw
          (try dsimp only at hSw)
          (have q0 := (hSw.blk (.head _)).strAll HZL.out (by omega); have q1 := (hSw.blk (.tail _ (.head _))).strOwn (n := 32 + 32) HHL.out hcap5 hcm5; have q2 := (hSw.blk (.tail _ (.tail _ (.head _)))).strAll HQL.out (by omega); have q3 := (hSw.blk (.tail _ (.tail _ (.tail _ (.head _))))).strAll HL3.out (by omega); have q4 := (hSw.blk (.tail _ (.tail _ (.tail _ (.tail _ (.head _)))))).strAll HQL.out (by omega); have q5 := (hSw.blk (.tail _ (.tail _ (.tail _ (.tail _ (.tail _ (.head _))))))).strAll HPL.out (by omega); clear hSw; go_simp)
          (try (with_reducible rfl))
        (try simp only [List.getElem_toArray, List.getElem_cons_zero, List.getElem_cons_succ, Act.put, List.setIfInBounds_toArray, List.set_cons_zero, List.set_cons_succ])
        refine' wpAnyH_take (i := 31) (v := _) rfl (by kernel_rfl) (by kernel_rfl) (by kernel_rfl) (fun _ _ _ h => h) (Or.inr ⟨by rfl, rfl⟩) (by assumption) ?tbq129
        (try simp only [List.getElem_toArray, List.getElem_cons_zero, List.getElem_cons_succ, Act.put, List.setIfInBounds_toArray, List.set_cons_zero, List.set_cons_succ])
        refine' wpAnyH_take (i := 32) (v := _) rfl (by kernel_rfl) (by kernel_rfl) (by kernel_rfl) (fun _ _ _ h => h) (Or.inr ⟨by rfl, rfl⟩) (by assumption) ?tbq130
        (try simp only [List.getElem_toArray, List.getElem_cons_zero, List.getElem_cons_succ, Act.put, List.setIfInBounds_toArray, List.set_cons_zero, List.set_cons_succ])
        refine' wpAnyH_take (i := 33) (v := _) rfl (by kernel_rfl) (by kernel_rfl) (by kernel_rfl) (fun _ _ _ h => h) (Or.inr ⟨by rfl, rfl⟩) (by assumption) ?tbq131
        (try simp only [List.getElem_toArray, List.getElem_cons_zero, List.getElem_cons_succ, Act.put, List.setIfInBounds_toArray, List.set_cons_zero, List.set_cons_succ])
        refine' wpAnyH_take (i := 34) (v := _) rfl (by kernel_rfl) (by kernel_rfl) (by kernel_rfl) (fun _ _ _ h => h) (Or.inr ⟨by rfl, rfl⟩) (by assumption) ?tbq132
        (try simp only [List.getElem_toArray, List.getElem_cons_zero, List.getElem_cons_succ, Act.put, List.setIfInBounds_toArray, List.set_cons_zero, List.set_cons_succ])
        refine' wpAnyH_take (i := 35) (v := _) rfl (by kernel_rfl) (by kernel_rfl) (by kernel_rfl) (fun _ _ _ h => h) (Or.inr ⟨by rfl, rfl⟩) (by assumption) ?tbq133
        (try simp only [List.getElem_toArray, List.getElem_cons_zero, List.getElem_cons_succ, Act.put, List.setIfInBounds_toArray, List.set_cons_zero, List.set_cons_succ])
        refine' wpAnyH_take (i := 36) (v := _) rfl (by kernel_rfl) (by kernel_rfl) (by kernel_rfl) (fun _ _ _ h => h) (Or.inl ⟨by rfl, ?taq134⟩) (by assumption) ?tbq134
        case taq134 =>
          intro wS hSw
          (try dsimp only at hSw)
          (have q0 := (hSw.blk (.head _)).strAll HZL.out (by omega); have q1 := (hSw.blk (.tail _ (.head _))).strOwn (n := 32 + 32) HHL.out hcap5 hcm5; have q2 := (hSw.blk (.tail _ (.tail _ (.head _)))).strAll HQL.out (by omega); have q3 := (hSw.blk (.tail _ (.tail _ (.tail _ (.head _))))).strAll HL3.out (by omega); have q4 := (hSw.blk (.tail _ (.tail _ (.tail _ (.tail _ (.head _)))))).strAll HQL.out (by omega); have q5 := (hSw.blk (.tail _ (.tail _ (.tail _ (.tail _ (.tail _ (.head _))))))).strAll HPL.out (by omega); clear hSw; go_simp)
          (try (with_reducible rfl))
        (try simp only [List.getElem_toArray, List.getElem_cons_zero, List.getElem_cons_succ, Act.put, List.setIfInBounds_toArray, List.set_cons_zero, List.set_cons_succ])
        refine' wpAnyH_take (i := 37) (v := _) rfl (by kernel_rfl) (by kernel_rfl) (by kernel_rfl) (fun _ _ _ h => h) (Or.inl ⟨by rfl, ?taq135⟩) (by assumption) ?tbq135
        case taq135 =>
          intro wS hSw
          (try dsimp only at hSw)
          (have q0 := (hSw.blk (.head _)).strAll HZL.out (by omega); have q1 := (hSw.blk (.tail _ (.head _))).strOwn (n := 32 + 32) HHL.out hcap5 hcm5; have q2 := (hSw.blk (.tail _ (.tail _ (.head _)))).strAll HQL.out (by omega); have q3 := (hSw.blk (.tail _ (.tail _ (.tail _ (.head _))))).strAll HL3.out (by omega); have q4 := (hSw.blk (.tail _ (.tail _ (.tail _ (.tail _ (.head _)))))).strAll HQL.out (by omega); have q5 := (hSw.blk (.tail _ (.tail _ (.tail _ (.tail _ (.tail _ (.head _))))))).strAll HPL.out (by omega); clear hSw; go_simp)
          (try (with_reducible rfl))
        (try simp only [List.getElem_toArray, List.getElem_cons_zero, List.getElem_cons_succ, Act.put, List.setIfInBounds_toArray, List.set_cons_zero, List.set_cons_succ])
        refine' wpAnyH_take (i := 38) (v := _) rfl (by kernel_rfl) (by kernel_rfl) (by kernel_rfl) (fun _ _ _ h => h) (Or.inl ⟨by rfl, ?taq136⟩) (by assumption) ?tbq136
        case taq136 =>
          intro wS hSw
          (try dsimp only at hSw)
          (have q0 := (hSw.blk (.head _)).strAll HZL.out (by omega); have q1 := (hSw.blk (.tail _ (.head _))).strOwn (n := 32 + 32) HHL.out hcap5 hcm5; have q2 := (hSw.blk (.tail _ (.tail _ (.head _)))).strAll HQL.out (by omega); have q3 := (hSw.blk (.tail _ (.tail _ (.tail _ (.head _))))).strAll HL3.out (by omega); have q4 := (hSw.blk (.tail _ (.tail _ (.tail _ (.tail _ (.head _)))))).strAll HQL.out (by omega); have q5 := (hSw.blk (.tail _ (.tail _ (.tail _ (.tail _ (.tail _ (.head _))))))).strAll HPL.out (by omega); clear hSw; go_simp)
          (try (with_reducible rfl))
        (try simp only [List.getElem_toArray, List.getElem_cons_zero, List.getElem_cons_succ, Act.put, List.setIfInBounds_toArray, List.set_cons_zero, List.set_cons_succ])
        refine' wpAnyH_take (i := 39) (v := _) rfl (by kernel_rfl) (by kernel_rfl) (by kernel_rfl) (fun _ _ _ h => h) (Or.inl ⟨by rfl, ?taq137⟩) (by assumption) ?tbq137
        case taq137 =>
          intro wS hSw
          (try dsimp only at hSw)
          (have q0 := (hSw.blk (.head _)).strAll HZL.out (by omega); have q1 := (hSw.blk (.tail _ (.head _))).strOwn (n := 32 + 32) HHL.out hcap5 hcm5; have q2 := (hSw.blk (.tail _ (.tail _ (.head _)))).strAll HQL.out (by omega); have q3 := (hSw.blk (.tail _ (.tail _ (.tail _ (.head _))))).strAll HL3.out (by omega); have q4 := (hSw.blk (.tail _ (.tail _ (.tail _ (.tail _ (.head _)))))).strAll HQL.out (by omega); have q5 := (hSw.blk (.tail _ (.tail _ (.tail _ (.tail _ (.tail _ (.head _))))))).strAll HPL.out (by omega); clear hSw; go_simp)
          (try (with_reducible rfl))
        (try simp only [List.getElem_toArray, List.getElem_cons_zero, List.getElem_cons_succ, Act.put, List.setIfInBounds_toArray, List.set_cons_zero, List.set_cons_succ])
        refine' wpAnyH_take (i := 40) (v := _) rfl (by kernel_rfl) (by kernel_rfl) (by kernel_rfl) (fun _ _ _ h => h) (Or.inl ⟨by rfl, ?taq138⟩) (by assumption) ?tbq138
        case taq138 =>
          intro wS hSw
          (try dsimp only at hSw)
          (have q0 := (hSw.blk (.head _)).strAll HZL.out (by omega); have q1 := (hSw.blk (.tail _ (.head _))).strOwn (n := 32 + 32) HHL.out hcap5 hcm5; have q2 := (hSw.blk (.tail _ (.tail _ (.head _)))).strAll HQL.out (by omega); have q3 := (hSw.blk (.tail _ (.tail _ (.tail _ (.head _))))).strAll HL3.out (by omega); have q4 := (hSw.blk (.tail _ (.tail _ (.tail _ (.tail _ (.head _)))))).strAll HQL.out (by omega); have q5 := (hSw.blk (.tail _ (.tail _ (.tail _ (.tail _ (.tail _ (.head _))))))).strAll HPL.out (by omega); clear hSw; go_simp)
          (try (with_reducible rfl))
        (try simp only [List.getElem_toArray, List.getElem_cons_zero, List.getElem_cons_succ, Act.put, List.setIfInBounds_toArray, List.set_cons_zero, List.set_cons_succ])
        refine wpAnyH_ready (rs := [41]) (by kernel_rfl) (by simp) ?_
        refine AllReadyH.cons rfl (fun K9 hK9 => ?_) AllReadyH.nil
        (try simp only [List.getElem_toArray, List.getElem_cons_zero, List.getElem_cons_succ])
        go_simp
        refine (ds_full D12.out.drew 0 0 rfl).mono ?_
        rw [HZ.out]
        rintro en we ⟨g7, rfl, h⟩
        have D13 := Lib.hid h
        have D13s := Lib.hid (h.sub (bs' := [(g6, 58, bytesV Z), (g5, 5, bytesV H ++ rest5), (g4, 58, bytesV r), (g3, 58, bytesV r), (g2, 5, bytesV r), (g1, 5, bytesV P)]) (fun b hb => .tail _ hb))
        have q7 := (h.blk (.head _)).strAll HZL.out (by omega)
        clear h
        refine hK9.out _ _ (D13s.out) (fun hHeld9 => ?_)
        clear hK9 K9
        (try simp only [List.getElem_toArray, List.getElem_cons_zero, List.getElem_cons_succ, Act.put, List.setIfInBounds_toArray, List.set_cons_zero, List.set_cons_succ])
        refine wpAnyH_ready (rs := [42]) (by kernel_rfl) (by simp) ?_
        refine AllReadyH.cons rfl (fun K9 hK9 => ?_) AllReadyH.nil
        (try simp only [List.getElem_toArray, List.getElem_cons_zero, List.getElem_cons_succ])
        go_simp
        refine hK9.out _ _ (D13s.out) (fun hHeld9 => ?_)
        clear hK9 K9
        (try simp only [List.getElem_toArray, List.getElem_cons_zero, List.getElem_cons_succ, Act.put, List.setIfInBounds_toArray, List.set_cons_zero, List.set_cons_succ])
        refine' wpAnyH_take (i := 43) (v := _) rfl (by kernel_rfl) (by kernel_rfl) (by kernel_rfl) (fun _ _ _ h => h) (Or.inl ⟨by rfl, ?taq139⟩) (by assumption) ?tbq139
        case taq139 =>
          intro wS hSw
          (try dsimp only at hSw)
          (have q0 := (hSw.blk (.head _)).strAll HZL.out (by omega); have q1 := (hSw.blk (.tail _ (.head _))).strOwn (n := 32 + 32) HHL.out hcap5 hcm5; have q2 := (hSw.blk (.tail _ (.tail _ (.head _)))).strAll HQL.out (by omega); have q3 := (hSw.blk (.tail _ (.tail _ (.tail _ (.head _))))).strAll HL3.out (by omega); have q4 := (hSw.blk (.tail _ (.tail _ (.tail _ (.tail _ (.head _)))))).strAll HQL.out (by omega); have q5 := (hSw.blk (.tail _ (.tail _ (.tail _ (.tail _ (.tail _ (.head _))))))).strAll HPL.out (by omega); clear hSw; go_simp)
          (try (with_reducible rfl))
        (try simp only [List.getElem_toArray, List.getElem_cons_zero, List.getElem_cons_succ, Act.put, List.setIfInBounds_toArray, List.set_cons_zero, List.set_cons_succ])
        refine' wpAnyH_take (i := 44) (v := _) rfl (by kernel_rfl) (by kernel_rfl) (by kernel_rfl) (fun _ _ _ h => h) (Or.inl ⟨by rfl, ?taq140⟩) (by assumption) ?tbq140
        case taq140 =>
          intro wS hSw
          (try dsimp only at hSw)
          (have q0 := (hSw.blk (.head _)).strAll HZL.out (by omega); have q1 := (hSw.blk (.tail _ (.head _))).strOwn (n := 32 + 32) HHL.out hcap5 hcm5; have q2 := (hSw.blk (.tail _ (.tail _ (.head _)))).strAll HQL.out (by omega); have q3 := (hSw.blk (.tail _ (.tail _ (.tail _ (.head _))))).strAll HL3.out (by omega); have q4 := (hSw.blk (.tail _ (.tail _ (.tail _ (.tail _ (.head _)))))).strAll HQL.out (by omega); have q5 := (hSw.blk (.tail _ (.tail _ (.tail _ (.tail _ (.tail _ (.head _))))))).strAll HPL.out (by omega); clear hSw; go_simp)
          (try (with_reducible rfl))
        (try simp only [List.getElem_toArray, List.getElem_cons_zero, List.getElem_cons_succ, Act.put, List.setIfInBounds_toArray, List.set_cons_zero, List.set_cons_succ])
        refine' wpAnyH_take (i := 45) (v := _) rfl (by kernel_rfl) (by kernel_rfl) (by kernel_rfl) (fun _ _ _ h => h) (Or.inl ⟨by rfl, ?taq141⟩) (by assumption) ?tbq141
        case taq141 =>
          intro wS hSw
          (try dsimp only at hSw)
          (have q0 := (hSw.blk (.head _)).strAll HZL.out (by omega); have q1 := (hSw.blk (.tail _ (.head _))).strOwn (n := 32 + 32) HHL.out hcap5 hcm5; have q2 := (hSw.blk (.tail _ (.tail _ (.head _)))).strAll HQL.out (by omega); have q3 := (hSw.blk (.tail _ (.tail _ (.tail _ (.head _))))).strAll HL3.out (by omega); have q4 := (hSw.blk (.tail _ (.tail _ (.tail _ (.tail _ (.head _)))))).strAll HQL.out (by omega); have q5 := (hSw.blk (.tail _ (.tail _ (.tail _ (.tail _ (.tail _ (.head _))))))).strAll HPL.out (by omega); clear hSw; go_simp)
          (try (with_reducible rfl))
        (try simp only [List.getElem_toArray, List.getElem_cons_zero, List.getElem_cons_succ, Act.put, List.setIfInBounds_toArray, List.set_cons_zero, List.set_cons_succ])
        refine wpAnyH_ready (rs := [46]) (by kernel_rfl) (by simp) ?_
        refine AllReadyH.cons rfl (fun K9 hK9 => ?_) AllReadyH.nil
        (try simp only [List.getElem_toArray, List.getElem_cons_zero, List.getElem_cons_succ])
        go_simp
        refine (awake5_any we).mono ?_
        rintro en wf ⟨rfl, hbf⟩
        have D14 := Lib.hid (D13s.out.below hbf)
        clear hbf
        refine hK9.out _ _ (D14.out) (fun hHeld9 => ?_)
        clear hK9 K9
        (try simp only [List.getElem_toArray, List.getElem_cons_zero, List.getElem_cons_succ, Act.put, List.setIfInBounds_toArray, List.set_cons_zero, List.set_cons_succ])
        refine' wpAnyH_take (i := 47) (v := _) rfl (by kernel_rfl) (by kernel_rfl) (by kernel_rfl) (fun _ _ _ h => h) (Or.inl ⟨by rfl, ?taq142⟩) (by assumption) ?tbq142
        case taq142 =>
          intro wS hSw
          (try dsimp only at hSw)
          (have q0 := (hSw.blk (.head _)).strAll HZL.out (by omega); have q1 := (hSw.blk (.tail _ (.head _))).strOwn (n := 32 + 32) HHL.out hcap5 hcm5; have q2 := (hSw.blk (.tail _ (.tail _ (.head _)))).strAll HQL.out (by omega); have q3 := (hSw.blk (.tail _ (.tail _ (.tail _ (.head _))))).strAll HL3.out (by omega); have q4 := (hSw.blk (.tail _ (.tail _ (.tail _ (.tail _ (.head _)))))).strAll HQL.out (by omega); have q5 := (hSw.blk (.tail _ (.tail _ (.tail _ (.tail _ (.tail _ (.head _))))))).strAll HPL.out (by omega); clear hSw; go_simp)
          (try (with_reducible rfl))
        (try simp only [List.getElem_toArray, List.getElem_cons_zero, List.getElem_cons_succ, Act.put, List.setIfInBounds_toArray, List.set_cons_zero, List.set_cons_succ])
        refine' wpAnyH_take (i := 48) (v := _) rfl (by kernel_rfl) (by kernel_rfl) (by kernel_rfl) (fun _ _ _ h => h) (Or.inl ⟨by rfl, ?taq143⟩) (by assumption) ?tbq143
        case taq143 =>
          intro wS hSw
          (try dsimp only at hSw)
          (have q0 := (hSw.blk (.head _)).strAll HZL.out (by omega); have q1 := (hSw.blk (.tail _ (.head _))).strOwn (n := 32 + 32) HHL.out hcap5 hcm5; have q2 := (hSw.blk (.tail _ (.tail _ (.head _)))).strAll HQL.out (by omega); have q3 := (hSw.blk (.tail _ (.tail _ (.tail _ (.head _))))).strAll HL3.out (by omega); have q4 := (hSw.blk (.tail _ (.tail _ (.tail _ (.tail _ (.head _)))))).strAll HQL.out (by omega); have q5 := (hSw.blk (.tail _ (.tail _ (.tail _ (.tail _ (.tail _ (.head _))))))).strAll HPL.out (by omega); clear hSw; go_simp)
          (try (with_reducible rfl))
        (try simp only [List.getElem_toArray, List.getElem_cons_zero, List.getElem_cons_succ, Act.put, List.setIfInBounds_toArray, List.set_cons_zero, List.set_cons_succ])
        refine wpAnyH_done (by kernel_rfl) ?_ _
        go_wp2
        go_ret
        exact ⟨rfl, D14.out.bel⟩
      · by_cases hn2 : r = Q
        · clear hr
          subst hn2
          have n1 : (r == P) = false := beq_eq_false_iff_ne.2 hn1
          clear hn1
          refine wp_region_held_drew (S := (fun w' => DS w w' [(d, sD.crash a4)] [(g6, 58, bytesV Z), (g5, 5, bytesV H ++ rest5), (g4, 58, bytesV r), (g3, 58, bytesV r), (g2, 5, bytesV r), (g1, 5, bytesV P)])) (by kernel_rfl) (D12.out.drew) (fun hHeld => ?_)
          refine' wpAnyH_take (i := 0) (v := _) rfl (by kernel_rfl) (by kernel_rfl) (by kernel_rfl) (fun _ _ _ h => h) (Or.inl ⟨by rfl, ?taq144⟩) (by assumption) ?tbq144
          case taq144 =>
            intro wS hSw
            (try dsimp only at hSw)
            (have q0 := (hSw.blk (.head _)).strAll HZL.out (by omega); have q1 := (hSw.blk (.tail _ (.head _))).strOwn (n := 32 + 32) HHL.out hcap5 hcm5; have q2 := (hSw.blk (.tail _ (.tail _ (.head _)))).strAll HQL.out (by omega); have q3 := (hSw.blk (.tail _ (.tail _ (.tail _ (.head _))))).strAll HL3.out (by omega); have q4 := (hSw.blk (.tail _ (.tail _ (.tail _ (.tail _ (.head _)))))).strAll HQL.out (by omega); have q5 := (hSw.blk (.tail _ (.tail _ (.tail _ (.tail _ (.tail _ (.head _))))))).strAll HPL.out (by omega); clear hSw; go_simp)
            (try (with_reducible rfl))
          (try simp only [List.getElem_toArray, List.getElem_cons_zero, List.getElem_cons_succ, Act.put, List.setIfInBounds_toArray, List.set_cons_zero, List.set_cons_succ])
          refine' wpAnyH_take (i := 1) (v := _) rfl (by kernel_rfl) (by kernel_rfl) (by kernel_rfl) (fun _ _ _ h => h) (Or.inl ⟨by rfl, ?taq145⟩) (by assumption) ?tbq145
          case taq145 =>
            intro wS hSw
            (try dsimp only at hSw)
            (have q0 := (hSw.blk (.head _)).strAll HZL.out (by omega); have q1 := (hSw.blk (.tail _ (.head _))).strOwn (n := 32 + 32) HHL.out hcap5 hcm5; have q2 := (hSw.blk (.tail _ (.tail _ (.head _)))).strAll HQL.out (by omega); have q3 := (hSw.blk (.tail _ (.tail _ (.tail _ (.head _))))).strAll HL3.out (by omega); have q4 := (hSw.blk (.tail _ (.tail _ (.tail _ (.tail _ (.head _)))))).strAll HQL.out (by omega); have q5 := (hSw.blk (.tail _ (.tail _ (.tail _ (.tail _ (.tail _ (.head _))))))).strAll HPL.out (by omega); clear hSw; go_simp)
            (try (with_reducible rfl))
          (try simp only [List.getElem_toArray, List.getElem_cons_zero, List.getElem_cons_succ, Act.put, List.setIfInBounds_toArray, List.set_cons_zero, List.set_cons_succ])
          refine' wpAnyH_take (i := 2) (v := _) rfl (by kernel_rfl) (by kernel_rfl) (by kernel_rfl) (fun _ _ _ h => h) (Or.inl ⟨by rfl, ?taq146⟩) (by assumption) ?tbq146
          case taq146 =>
            intro wS hSw
            (try dsimp only at hSw)
            (have q0 := (hSw.blk (.head _)).strAll HZL.out (by omega); have q1 := (hSw.blk (.tail _ (.head _))).strOwn (n := 32 + 32) HHL.out hcap5 hcm5; have q2 := (hSw.blk (.tail _ (.tail _ (.head _)))).strAll HQL.out (by omega); have q3 := (hSw.blk (.tail _ (.tail _ (.tail _ (.head _))))).strAll HL3.out (by omega); have q4 := (hSw.blk (.tail _ (.tail _ (.tail _ (.tail _ (.head _)))))).strAll HQL.out (by omega); have q5 := (hSw.blk (.tail _ (.tail _ (.tail _ (.tail _ (.tail _ (.head _))))))).strAll HPL.out (by omega); clear hSw; go_simp)
            (try (with_reducible rfl))
          (try simp only [List.getElem_toArray, List.getElem_cons_zero, List.getElem_cons_succ, Act.put, List.setIfInBounds_toArray, List.set_cons_zero, List.set_cons_succ])
          refine' wpAnyH_take (i := 3) (v := _) rfl (by kernel_rfl) (by kernel_rfl) (by kernel_rfl) (fun _ _ _ h => h) (Or.inl ⟨by rfl, ?taq147⟩) (by assumption) ?tbq147
          case taq147 =>
            intro wS hSw
            (try dsimp only at hSw)
            (have q0 := (hSw.blk (.head _)).strAll HZL.out (by omega); have q1 := (hSw.blk (.tail _ (.head _))).strOwn (n := 32 + 32) HHL.out hcap5 hcm5; have q2 := (hSw.blk (.tail _ (.tail _ (.head _)))).strAll HQL.out (by omega); have q3 := (hSw.blk (.tail _ (.tail _ (.tail _ (.head _))))).strAll HL3.out (by omega); have q4 := (hSw.blk (.tail _ (.tail _ (.tail _ (.tail _ (.head _)))))).strAll HQL.out (by omega); have q5 := (hSw.blk (.tail _ (.tail _ (.tail _ (.tail _ (.tail _ (.head _))))))).strAll HPL.out (by omega); clear hSw; go_simp)
            (try (with_reducible rfl))
          (try simp only [List.getElem_toArray, List.getElem_cons_zero, List.getElem_cons_succ, Act.put, List.setIfInBounds_toArray, List.set_cons_zero, List.set_cons_succ])
          refine' wpAnyH_take (i := 4) (v := _) rfl (by kernel_rfl) (by kernel_rfl) (by kernel_rfl) (fun _ _ _ h => h) (Or.inl ⟨by rfl, ?taq148⟩) (by assumption) ?tbq148
          case taq148 =>
            intro wS hSw
            (try dsimp only at hSw)
            (have q0 := (hSw.blk (.head _)).strAll HZL.out (by omega); have q1 := (hSw.blk (.tail _ (.head _))).strOwn (n := 32 + 32) HHL.out hcap5 hcm5; have q2 := (hSw.blk (.tail _ (.tail _ (.head _)))).strAll HQL.out (by omega); have q3 := (hSw.blk (.tail _ (.tail _ (.tail _ (.head _))))).strAll HL3.out (by omega); have q4 := (hSw.blk (.tail _ (.tail _ (.tail _ (.tail _ (.head _)))))).strAll HQL.out (by omega); have q5 := (hSw.blk (.tail _ (.tail _ (.tail _ (.tail _ (.tail _ (.head _))))))).strAll HPL.out (by omega); clear hSw; go_simp)
            (try (with_reducible rfl))
          (try simp only [List.getElem_toArray, List.getElem_cons_zero, List.getElem_cons_succ, Act.put, List.setIfInBounds_toArray, List.set_cons_zero, List.set_cons_succ])
          refine' wpAnyH_take (i := 5) (v := _) rfl (by kernel_rfl) (by kernel_rfl) (by kernel_rfl) (fun _ _ _ h => h) (Or.inl ⟨by rfl, ?taq149⟩) (by assumption) ?tbq149
          case taq149 =>
            intro wS hSw
            (try dsimp only at hSw)
            (have q0 := (hSw.blk (.head _)).strAll HZL.out (by omega); have q1 := (hSw.blk (.tail _ (.head _))).strOwn (n := 32 + 32) HHL.out hcap5 hcm5; have q2 := (hSw.blk (.tail _ (.tail _ (.head _)))).strAll HQL.out (by omega); have q3 := (hSw.blk (.tail _ (.tail _ (.tail _ (.head _))))).strAll HL3.out (by omega); have q4 := (hSw.blk (.tail _ (.tail _ (.tail _ (.tail _ (.head _)))))).strAll HQL.out (by omega); have q5 := (hSw.blk (.tail _ (.tail _ (.tail _ (.tail _ (.tail _ (.head _))))))).strAll HPL.out (by omega); clear hSw; go_simp)
            (try (with_reducible rfl))
          (try simp only [List.getElem_toArray, List.getElem_cons_zero, List.getElem_cons_succ, Act.put, List.setIfInBounds_toArray, List.set_cons_zero, List.set_cons_succ])
          refine' wpAnyH_take (i := 6) (v := _) rfl (by kernel_rfl) (by kernel_rfl) (by kernel_rfl) (fun _ _ _ h => h) (Or.inl ⟨by rfl, ?taq150⟩) (by assumption) ?tbq150
          case taq150 =>
            intro wS hSw
            (try dsimp only at hSw)
            (have q0 := (hSw.blk (.head _)).strAll HZL.out (by omega); have q1 := (hSw.blk (.tail _ (.head _))).strOwn (n := 32 + 32) HHL.out hcap5 hcm5; have q2 := (hSw.blk (.tail _ (.tail _ (.head _)))).strAll HQL.out (by omega); have q3 := (hSw.blk (.tail _ (.tail _ (.tail _ (.head _))))).strAll HL3.out (by omega); have q4 := (hSw.blk (.tail _ (.tail _ (.tail _ (.tail _ (.head _)))))).strAll HQL.out (by omega); have q5 := (hSw.blk (.tail _ (.tail _ (.tail _ (.tail _ (.tail _ (.head _))))))).strAll HPL.out (by omega); clear hSw; go_simp)
            (try (with_reducible rfl))
          (try simp only [List.getElem_toArray, List.getElem_cons_zero, List.getElem_cons_succ, Act.put, List.setIfInBounds_toArray, List.set_cons_zero, List.set_cons_succ])
          refine' wpAnyH_take (i := 7) (v := _) rfl (by kernel_rfl) (by kernel_rfl) (by kernel_rfl) (fun _ _ _ h => h) (Or.inl ⟨by rfl, ?taq151⟩) (by assumption) ?tbq151
          case taq151 =>
            intro wS hSw
            (try dsimp only at hSw)
            (have q0 := (hSw.blk (.head _)).strAll HZL.out (by omega); have q1 := (hSw.blk (.tail _ (.head _))).strOwn (n := 32 + 32) HHL.out hcap5 hcm5; have q2 := (hSw.blk (.tail _ (.tail _ (.head _)))).strAll HQL.out (by omega); have q3 := (hSw.blk (.tail _ (.tail _ (.tail _ (.head _))))).strAll HL3.out (by omega); have q4 := (hSw.blk (.tail _ (.tail _ (.tail _ (.tail _ (.head _)))))).strAll HQL.out (by omega); have q5 := (hSw.blk (.tail _ (.tail _ (.tail _ (.tail _ (.tail _ (.head _))))))).strAll HPL.out (by omega); clear hSw; go_simp)
            (try (with_reducible rfl))
          (try simp only [List.getElem_toArray, List.getElem_cons_zero, List.getElem_cons_succ, Act.put, List.setIfInBounds_toArray, List.set_cons_zero, List.set_cons_succ])
          refine' wpAnyH_take (i := 8) (v := _) rfl (by kernel_rfl) (by kernel_rfl) (by kernel_rfl) (fun _ _ _ h => h) (Or.inl ⟨by rfl, ?taq152⟩) (by assumption) ?tbq152
          case taq152 =>
            intro wS hSw
            (try dsimp only at hSw)
            (have q0 := (hSw.blk (.head _)).strAll HZL.out (by omega); have q1 := (hSw.blk (.tail _ (.head _))).strOwn (n := 32 + 32) HHL.out hcap5 hcm5; have q2 := (hSw.blk (.tail _ (.tail _ (.head _)))).strAll HQL.out (by omega); have q3 := (hSw.blk (.tail _ (.tail _ (.tail _ (.head _))))).strAll HL3.out (by omega); have q4 := (hSw.blk (.tail _ (.tail _ (.tail _ (.tail _ (.head _)))))).strAll HQL.out (by omega); have q5 := (hSw.blk (.tail _ (.tail _ (.tail _ (.tail _ (.tail _ (.head _))))))).strAll HPL.out (by omega); clear hSw; go_simp)
            (try (with_reducible rfl))
          (try simp only [List.getElem_toArray, List.getElem_cons_zero, List.getElem_cons_succ, Act.put, List.setIfInBounds_toArray, List.set_cons_zero, List.set_cons_succ])
          refine' wpAnyH_take (i := 9) (v := _) rfl (by kernel_rfl) (by kernel_rfl) (by kernel_rfl) (fun _ _ _ h => h) (Or.inl ⟨by rfl, ?taq153⟩) (by assumption) ?tbq153
          case taq153 =>
            intro wS hSw
            (try dsimp only at hSw)
            (have q0 := (hSw.blk (.head _)).strAll HZL.out (by omega); have q1 := (hSw.blk (.tail _ (.head _))).strOwn (n := 32 + 32) HHL.out hcap5 hcm5; have q2 := (hSw.blk (.tail _ (.tail _ (.head _)))).strAll HQL.out (by omega); have q3 := (hSw.blk (.tail _ (.tail _ (.tail _ (.head _))))).strAll HL3.out (by omega); have q4 := (hSw.blk (.tail _ (.tail _ (.tail _ (.tail _ (.head _)))))).strAll HQL.out (by omega); have q5 := (hSw.blk (.tail _ (.tail _ (.tail _ (.tail _ (.tail _ (.head _))))))).strAll HPL.out (by omega); clear hSw; go_simp)
            (try (with_reducible rfl))
          (try simp only [List.getElem_toArray, List.getElem_cons_zero, List.getElem_cons_succ, Act.put, List.setIfInBounds_toArray, List.set_cons_zero, List.set_cons_succ])
          refine' wpAnyH_take (i := 10) (v := _) rfl (by kernel_rfl) (by kernel_rfl) (by kernel_rfl) (fun _ _ _ h => h) (Or.inl ⟨by rfl, ?taq154⟩) (by assumption) ?tbq154
          case taq154 =>
            intro wS hSw
            (try dsimp only at hSw)
            (have q0 := (hSw.blk (.head _)).strAll HZL.out (by omega); have q1 := (hSw.blk (.tail _ (.head _))).strOwn (n := 32 + 32) HHL.out hcap5 hcm5; have q2 := (hSw.blk (.tail _ (.tail _ (.head _)))).strAll HQL.out (by omega); have q3 := (hSw.blk (.tail _ (.tail _ (.tail _ (.head _))))).strAll HL3.out (by omega); have q4 := (hSw.blk (.tail _ (.tail _ (.tail _ (.tail _ (.head _)))))).strAll HQL.out (by omega); have q5 := (hSw.blk (.tail _ (.tail _ (.tail _ (.tail _ (.tail _ (.head _))))))).strAll HPL.out (by omega); clear hSw; go_simp)
            (try (with_reducible rfl))
          (try simp only [List.getElem_toArray, List.getElem_cons_zero, List.getElem_cons_succ, Act.put, List.setIfInBounds_toArray, List.set_cons_zero, List.set_cons_succ])
          refine' wpAnyH_take (i := 11) (v := _) rfl (by kernel_rfl) (by kernel_rfl) (by kernel_rfl) (fun _ _ _ h => h) (Or.inl ⟨by rfl, ?taq155⟩) (by assumption) ?tbq155
          case taq155 =>
            intro wS hSw
            (try dsimp only at hSw)
            (have q0 := (hSw.blk (.head _)).strAll HZL.out (by omega); have q1 := (hSw.blk (.tail _ (.head _))).strOwn (n := 32 + 32) HHL.out hcap5 hcm5; have q2 := (hSw.blk (.tail _ (.tail _ (.head _)))).strAll HQL.out (by omega); have q3 := (hSw.blk (.tail _ (.tail _ (.tail _ (.head _))))).strAll HL3.out (by omega); have q4 := (hSw.blk (.tail _ (.tail _ (.tail _ (.tail _ (.head _)))))).strAll HQL.out (by omega); have q5 := (hSw.blk (.tail _ (.tail _ (.tail _ (.tail _ (.tail _ (.head _))))))).strAll HPL.out (by omega); clear hSw; go_simp)
            (try (with_reducible rfl))
          (try simp only [List.getElem_toArray, List.getElem_cons_zero, List.getElem_cons_succ, Act.put, List.setIfInBounds_toArray, List.set_cons_zero, List.set_cons_succ])
          refine' wpAnyH_take (i := 12) (v := _) rfl (by kernel_rfl) (by kernel_rfl) (by kernel_rfl) (fun _ _ _ h => h) (Or.inl ⟨by rfl, ?taq156⟩) (by assumption) ?tbq156
          case taq156 =>
            intro wS hSw
            (try dsimp only at hSw)
            (have q0 := (hSw.blk (.head _)).strAll HZL.out (by omega); have q1 := (hSw.blk (.tail _ (.head _))).strOwn (n := 32 + 32) HHL.out hcap5 hcm5; have q2 := (hSw.blk (.tail _ (.tail _ (.head _)))).strAll HQL.out (by omega); have q3 := (hSw.blk (.tail _ (.tail _ (.tail _ (.head _))))).strAll HL3.out (by omega); have q4 := (hSw.blk (.tail _ (.tail _ (.tail _ (.tail _ (.head _)))))).strAll HQL.out (by omega); have q5 := (hSw.blk (.tail _ (.tail _ (.tail _ (.tail _ (.tail _ (.head _))))))).strAll HPL.out (by omega); clear hSw; go_simp)
            (try (with_reducible rfl))
          (try simp only [List.getElem_toArray, List.getElem_cons_zero, List.getElem_cons_succ, Act.put, List.setIfInBounds_toArray, List.set_cons_zero, List.set_cons_succ])
          refine' wpAnyH_take (i := 13) (v := _) rfl (by kernel_rfl) (by kernel_rfl) (by kernel_rfl) (fun _ _ _ h => h) (Or.inl ⟨by rfl, ?taq157⟩) (by assumption) ?tbq157
          case taq157 =>
            intro wS hSw
            (try dsimp only at hSw)
            (have q0 := (hSw.blk (.head _)).strAll HZL.out (by omega); have q1 := (hSw.blk (.tail _ (.head _))).strOwn (n := 32 + 32) HHL.out hcap5 hcm5; have q2 := (hSw.blk (.tail _ (.tail _ (.head _)))).strAll HQL.out (by omega); have q3 := (hSw.blk (.tail _ (.tail _ (.tail _ (.head _))))).strAll HL3.out (by omega); have q4 := (hSw.blk (.tail _ (.tail _ (.tail _ (.tail _ (.head _)))))).strAll HQL.out (by omega); have q5 := (hSw.blk (.tail _ (.tail _ (.tail _ (.tail _ (.tail _ (.head _))))))).strAll HPL.out (by omega); clear hSw; go_simp)
            (try (with_reducible rfl))
          (try simp only [List.getElem_toArray, List.getElem_cons_zero, List.getElem_cons_succ, Act.put, List.setIfInBounds_toArray, List.set_cons_zero, List.set_cons_succ])
          refine' wpAnyH_take (i := 14) (v := _) rfl (by kernel_rfl) (by kernel_rfl) (by kernel_rfl) (fun _ _ _ h => h) (Or.inl ⟨by rfl, ?taq158⟩) (by assumption) ?tbq158
          case taq158 =>
            intro wS hSw
            (try dsimp only at hSw)
            (have q0 := (hSw.blk (.head _)).strAll HZL.out (by omega); have q1 := (hSw.blk (.tail _ (.head _))).strOwn (n := 32 + 32) HHL.out hcap5 hcm5; have q2 := (hSw.blk (.tail _ (.tail _ (.head _)))).strAll HQL.out (by omega); have q3 := (hSw.blk (.tail _ (.tail _ (.tail _ (.head _))))).strAll HL3.out (by omega); have q4 := (hSw.blk (.tail _ (.tail _ (.tail _ (.tail _ (.head _)))))).strAll HQL.out (by omega); have q5 := (hSw.blk (.tail _ (.tail _ (.tail _ (.tail _ (.tail _ (.head _))))))).strAll HPL.out (by omega); clear hSw; go_simp)
            (try (with_reducible rfl))
          (try simp only [List.getElem_toArray, List.getElem_cons_zero, List.getElem_cons_succ, Act.put, List.setIfInBounds_toArray, List.set_cons_zero, List.set_cons_succ])
          refine' wpAnyH_take (i := 15) (v := _) rfl (by kernel_rfl) (by kernel_rfl) (by kernel_rfl) (fun _ _ _ h => h) (Or.inl ⟨by rfl, ?taq159⟩) (by assumption) ?tbq159
          case taq159 =>
            intro wS hSw
            (try dsimp only at hSw)
            (have q0 := (hSw.blk (.head _)).strAll HZL.out (by omega); have q1 := (hSw.blk (.tail _ (.head _))).strOwn (n := 32 + 32) HHL.out hcap5 hcm5; have q2 := (hSw.blk (.tail _ (.tail _ (.head _)))).strAll HQL.out (by omega); have q3 := (hSw.blk (.tail _ (.tail _ (.tail _ (.head _))))).strAll HL3.out (by omega); have q4 := (hSw.blk (.tail _ (.tail _ (.tail _ (.tail _ (.head _)))))).strAll HQL.out (by omega); have q5 := (hSw.blk (.tail _ (.tail _ (.tail _ (.tail _ (.tail _ (.head _))))))).strAll HPL.out (by omega); clear hSw; go_simp)
            (try (with_reducible rfl))
          (try simp only [List.getElem_toArray, List.getElem_cons_zero, List.getElem_cons_succ, Act.put, List.setIfInBounds_toArray, List.set_cons_zero, List.set_cons_succ])
          refine' wpAnyH_take (i := 16) (v := _) rfl (by kernel_rfl) (by kernel_rfl) (by kernel_rfl) (fun _ _ _ h => h) (Or.inl ⟨by rfl, ?taq160⟩) (by assumption) ?tbq160
          case taq160 =>
            intro wS hSw
            (try dsimp only at hSw)
            (have q0 := (hSw.blk (.head _)).strAll HZL.out (by omega); have q1 := (hSw.blk (.tail _ (.head _))).strOwn (n := 32 + 32) HHL.out hcap5 hcm5; have q2 := (hSw.blk (.tail _ (.tail _ (.head _)))).strAll HQL.out (by omega); have q3 := (hSw.blk (.tail _ (.tail _ (.tail _ (.head _))))).strAll HL3.out (by omega); have q4 := (hSw.blk (.tail _ (.tail _ (.tail _ (.tail _ (.head _)))))).strAll HQL.out (by omega); have q5 := (hSw.blk (.tail _ (.tail _ (.tail _ (.tail _ (.tail _ (.head _))))))).strAll HPL.out (by omega); clear hSw; go_simp)
            (try (with_reducible rfl))
          (try simp only [List.getElem_toArray, List.getElem_cons_zero, List.getElem_cons_succ, Act.put, List.setIfInBounds_toArray, List.set_cons_zero, List.set_cons_succ])
          refine' wpAnyH_take (i := 17) (v := _) rfl (by kernel_rfl) (by kernel_rfl) (by kernel_rfl) (fun _ _ _ h => h) (Or.inl ⟨by rfl, ?taq161⟩) (by assumption) ?tbq161
          case taq161 =>
            intro wS hSw
            (try dsimp only at hSw)
            (have q0 := (hSw.blk (.head _)).strAll HZL.out (by omega); have q1 := (hSw.blk (.tail _ (.head _))).strOwn (n := 32 + 32) HHL.out hcap5 hcm5; have q2 := (hSw.blk (.tail _ (.tail _ (.head _)))).strAll HQL.out (by omega); have q3 := (hSw.blk (.tail _ (.tail _ (.tail _ (.head _))))).strAll HL3.out (by omega); have q4 := (hSw.blk (.tail _ (.tail _ (.tail _ (.tail _ (.head _)))))).strAll HQL.out (by omega); have q5 := (hSw.blk (.tail _ (.tail _ (.tail _ (.tail _ (.tail _ (.head _))))))).strAll HPL.out (by omega); clear hSw; go_simp)
            (try (with_reducible rfl))
          (try simp only [List.getElem_toArray, List.getElem_cons_zero, List.getElem_cons_succ, Act.put, List.setIfInBounds_toArray, List.set_cons_zero, List.set_cons_succ])
          refine' wpAnyH_take (i := 18) (v := _) rfl (by kernel_rfl) (by kernel_rfl) (by kernel_rfl) (fun _ _ _ h => h) (Or.inl ⟨by rfl, ?taq162⟩) (by assumption) ?tbq162
          case taq162 =>
            intro wS hSw
            (try dsimp only at hSw)
            (have q0 := (hSw.blk (.head _)).strAll HZL.out (by omega); have q1 := (hSw.blk (.tail _ (.head _))).strOwn (n := 32 + 32) HHL.out hcap5 hcm5; have q2 := (hSw.blk (.tail _ (.tail _ (.head _)))).strAll HQL.out (by omega); have q3 := (hSw.blk (.tail _ (.tail _ (.tail _ (.head _))))).strAll HL3.out (by omega); have q4 := (hSw.blk (.tail _ (.tail _ (.tail _ (.tail _ (.head _)))))).strAll HQL.out (by omega); have q5 := (hSw.blk (.tail _ (.tail _ (.tail _ (.tail _ (.tail _ (.head _))))))).strAll HPL.out (by omega); clear hSw; go_simp)
            (try (with_reducible rfl))
          (try simp only [List.getElem_toArray, List.getElem_cons_zero, List.getElem_cons_succ, Act.put, List.setIfInBounds_toArray, List.set_cons_zero, List.set_cons_succ])
          refine' wpAnyH_take (i := 19) (v := _) rfl (by kernel_rfl) (by kernel_rfl) (by kernel_rfl) (fun _ _ _ h => h) (Or.inl ⟨by rfl, ?taq163⟩) (by assumption) ?tbq163
          case taq163 =>
            intro wS hSw
            (try dsimp only at hSw)
            (have q0 := (hSw.blk (.head _)).strAll HZL.out (by omega); have q1 := (hSw.blk (.tail _ (.head _))).strOwn (n := 32 + 32) HHL.out hcap5 hcm5; have q2 := (hSw.blk (.tail _ (.tail _ (.head _)))).strAll HQL.out (by omega); have q3 := (hSw.blk (.tail _ (.tail _ (.tail _ (.head _))))).strAll HL3.out (by omega); have q4 := (hSw.blk (.tail _ (.tail _ (.tail _ (.tail _ (.head _)))))).strAll HQL.out (by omega); have q5 := (hSw.blk (.tail _ (.tail _ (.tail _ (.tail _ (.tail _ (.head _))))))).strAll HPL.out (by omega); clear hSw; go_simp)
            (try (with_reducible rfl))
          (try simp only [List.getElem_toArray, List.getElem_cons_zero, List.getElem_cons_succ, Act.put, List.setIfInBounds_toArray, List.set_cons_zero, List.set_cons_succ])
          refine' wpAnyH_take (i := 20) (v := _) rfl (by kernel_rfl) (by kernel_rfl) (by kernel_rfl) (fun _ _ _ h => h) (Or.inl ⟨by rfl, ?taq164⟩) (by assumption) ?tbq164
          case taq164 =>
            intro wS hSw
            (try dsimp only at hSw)
            (have q0 := (hSw.blk (.head _)).strAll HZL.out (by omega); have q1 := (hSw.blk (.tail _ (.head _))).strOwn (n := 32 + 32) HHL.out hcap5 hcm5; have q2 := (hSw.blk (.tail _ (.tail _ (.head _)))).strAll HQL.out (by omega); have q3 := (hSw.blk (.tail _ (.tail _ (.tail _ (.head _))))).strAll HL3.out (by omega); have q4 := (hSw.blk (.tail _ (.tail _ (.tail _ (.tail _ (.head _)))))).strAll HQL.out (by omega); have q5 := (hSw.blk (.tail _ (.tail _ (.tail _ (.tail _ (.tail _ (.head _))))))).strAll HPL.out (by omega); clear hSw; go_simp)
            (try (with_reducible rfl))
          (try simp only [List.getElem_toArray, List.getElem_cons_zero, List.getElem_cons_succ, Act.put, List.setIfInBounds_toArray, List.set_cons_zero, List.set_cons_succ])
          refine' wpAnyH_take (i := 21) (v := _) rfl (by kernel_rfl) (by kernel_rfl) (by kernel_rfl) (fun _ _ _ h => h) (Or.inl ⟨by rfl, ?taq165⟩) (by assumption) ?tbq165
          case taq165 =>
            intro wS hSw
            (try dsimp only at hSw)
            (have q0 := (hSw.blk (.head _)).strAll HZL.out (by omega); have q1 := (hSw.blk (.tail _ (.head _))).strOwn (n := 32 + 32) HHL.out hcap5 hcm5; have q2 := (hSw.blk (.tail _ (.tail _ (.head _)))).strAll HQL.out (by omega); have q3 := (hSw.blk (.tail _ (.tail _ (.tail _ (.head _))))).strAll HL3.out (by omega); have q4 := (hSw.blk (.tail _ (.tail _ (.tail _ (.tail _ (.head _)))))).strAll HQL.out (by omega); have q5 := (hSw.blk (.tail _ (.tail _ (.tail _ (.tail _ (.tail _ (.head _))))))).strAll HPL.out (by omega); clear hSw; go_simp)
            (try (with_reducible rfl))
          (try simp only [List.getElem_toArray, List.getElem_cons_zero, List.getElem_cons_succ, Act.put, List.setIfInBounds_toArray, List.set_cons_zero, List.set_cons_succ])
          refine' wpAnyH_take (i := 22) (v := _) rfl (by kernel_rfl) (by kernel_rfl) (by kernel_rfl) (fun _ _ _ h => h) (Or.inl ⟨by rfl, ?taq166⟩) (by assumption) ?tbq166
          case taq166 =>
            intro wS hSw
            (try dsimp only at hSw)
            (have q0 := (hSw.blk (.head _)).strAll HZL.out (by omega); have q1 := (hSw.blk (.tail _ (.head _))).strOwn (n := 32 + 32) HHL.out hcap5 hcm5; have q2 := (hSw.blk (.tail _ (.tail _ (.head _)))).strAll HQL.out (by omega); have q3 := (hSw.blk (.tail _ (.tail _ (.tail _ (.head _))))).strAll HL3.out (by omega); have q4 := (hSw.blk (.tail _ (.tail _ (.tail _ (.tail _ (.head _)))))).strAll HQL.out (by omega); have q5 := (hSw.blk (.tail _ (.tail _ (.tail _ (.tail _ (.tail _ (.head _))))))).strAll HPL.out (by omega); clear hSw; go_simp)
            (try (with_reducible rfl))
          (try simp only [List.getElem_toArray, List.getElem_cons_zero, List.getElem_cons_succ, Act.put, List.setIfInBounds_toArray, List.set_cons_zero, List.set_cons_succ])
          refine' wpAnyH_take (i := 23) (v := _) rfl (by kernel_rfl) (by kernel_rfl) (by kernel_rfl) (fun _ _ _ h => h) (Or.inl ⟨by rfl, ?taq167⟩) (by assumption) ?tbq167
          case taq167 =>
            intro wS hSw
            (try dsimp only at hSw)
            (have q0 := (hSw.blk (.head _)).strAll HZL.out (by omega); have q1 := (hSw.blk (.tail _ (.head _))).strOwn (n := 32 + 32) HHL.out hcap5 hcm5; have q2 := (hSw.blk (.tail _ (.tail _ (.head _)))).strAll HQL.out (by omega); have q3 := (hSw.blk (.tail _ (.tail _ (.tail _ (.head _))))).strAll HL3.out (by omega); have q4 := (hSw.blk (.tail _ (.tail _ (.tail _ (.tail _ (.head _)))))).strAll HQL.out (by omega); have q5 := (hSw.blk (.tail _ (.tail _ (.tail _ (.tail _ (.tail _ (.head _))))))).strAll HPL.out (by omega); clear hSw; go_simp)
            (try (with_reducible rfl))
          (try simp only [List.getElem_toArray, List.getElem_cons_zero, List.getElem_cons_succ, Act.put, List.setIfInBounds_toArray, List.set_cons_zero, List.set_cons_succ])
          refine' wpAnyH_take (i := 24) (v := _) rfl (by kernel_rfl) (by kernel_rfl) (by kernel_rfl) (fun _ _ _ h => h) (Or.inl ⟨by rfl, ?taq168⟩) (by assumption) ?tbq168
          case taq168 =>
            intro wS hSw
            (try dsimp only at hSw)
            (have q0 := (hSw.blk (.head _)).strAll HZL.out (by omega); have q1 := (hSw.blk (.tail _ (.head _))).strOwn (n := 32 + 32) HHL.out hcap5 hcm5; have q2 := (hSw.blk (.tail _ (.tail _ (.head _)))).strAll HQL.out (by omega); have q3 := (hSw.blk (.tail _ (.tail _ (.tail _ (.head _))))).strAll HL3.out (by omega); have q4 := (hSw.blk (.tail _ (.tail _ (.tail _ (.tail _ (.head _)))))).strAll HQL.out (by omega); have q5 := (hSw.blk (.tail _ (.tail _ (.tail _ (.tail _ (.tail _ (.head _))))))).strAll HPL.out (by omega); clear hSw; go_simp)
            (try (with_reducible rfl))
          (try simp only [List.getElem_toArray, List.getElem_cons_zero, List.getElem_cons_succ, Act.put, List.setIfInBounds_toArray, List.set_cons_zero, List.set_cons_succ])
          refine' wpAnyH_take (i := 25) (v := _) rfl (by kernel_rfl) (by kernel_rfl) (by kernel_rfl) (fun _ _ _ h => h) (Or.inl ⟨by rfl, ?taq169⟩) (by assumption) ?tbq169
          case taq169 =>
            intro wS hSw
            (try dsimp only at hSw)
            (have q0 := (hSw.blk (.head _)).strAll HZL.out (by omega); have q1 := (hSw.blk (.tail _ (.head _))).strOwn (n := 32 + 32) HHL.out hcap5 hcm5; have q2 := (hSw.blk (.tail _ (.tail _ (.head _)))).strAll HQL.out (by omega); have q3 := (hSw.blk (.tail _ (.tail _ (.tail _ (.head _))))).strAll HL3.out (by omega); have q4 := (hSw.blk (.tail _ (.tail _ (.tail _ (.tail _ (.head _)))))).strAll HQL.out (by omega); have q5 := (hSw.blk (.tail _ (.tail _ (.tail _ (.tail _ (.tail _ (.head _))))))).strAll HPL.out (by omega); clear hSw; go_simp)
            (try (with_reducible rfl))
          (try simp only [List.getElem_toArray, List.getElem_cons_zero, List.getElem_cons_succ, Act.put, List.setIfInBounds_toArray, List.set_cons_zero, List.set_cons_succ])
          refine' wpAnyH_take (i := 26) (v := _) rfl (by kernel_rfl) (by kernel_rfl) (by kernel_rfl) (fun _ _ _ h => h) (Or.inl ⟨by rfl, ?taq170⟩) (by assumption) ?tbq170
          case taq170 =>
            intro wS hSw
            (try dsimp only at hSw)
            (have q0 := (hSw.blk (.head _)).strAll HZL.out (by omega); have q1 := (hSw.blk (.tail _ (.head _))).strOwn (n := 32 + 32) HHL.out hcap5 hcm5; have q2 := (hSw.blk (.tail _ (.tail _ (.head _)))).strAll HQL.out (by omega); have q3 := (hSw.blk (.tail _ (.tail _ (.tail _ (.head _))))).strAll HL3.out (by omega); have q4 := (hSw.blk (.tail _ (.tail _ (.tail _ (.tail _ (.head _)))))).strAll HQL.out (by omega); have q5 := (hSw.blk (.tail _ (.tail _ (.tail _ (.tail _ (.tail _ (.head _))))))).strAll HPL.out (by omega); clear hSw; go_simp)
            (try (with_reducible rfl))
          (try simp only [List.getElem_toArray, List.getElem_cons_zero, List.getElem_cons_succ, Act.put, List.setIfInBounds_toArray, List.set_cons_zero, List.set_cons_succ])
          refine' wpAnyH_take (i := 27) (v := _) rfl (by kernel_rfl) (by kernel_rfl) (by kernel_rfl) (fun _ _ _ h => h) (Or.inl ⟨by rfl, ?taq171⟩) (by assumption) ?tbq171
          case taq171 =>
            intro wS hSw
            (try dsimp only at hSw)
            (have q0 := (hSw.blk (.head _)).strAll HZL.out (by omega); have q1 := (hSw.blk (.tail _ (.head _))).strOwn (n := 32 + 32) HHL.out hcap5 hcm5; have q2 := (hSw.blk (.tail _ (.tail _ (.head _)))).strAll HQL.out (by omega); have q3 := (hSw.blk (.tail _ (.tail _ (.tail _ (.head _))))).strAll HL3.out (by omega); have q4 := (hSw.blk (.tail _ (.tail _ (.tail _ (.tail _ (.head _)))))).strAll HQL.out (by omega); have q5 := (hSw.blk (.tail _ (.tail _ (.tail _ (.tail _ (.tail _ (.head _))))))).strAll HPL.out (by omega); clear hSw; go_simp)
            (try (with_reducible rfl))
          (try simp only [List.getElem_toArray, List.getElem_cons_zero, List.getElem_cons_succ, Act.put, List.setIfInBounds_toArray, List.set_cons_zero, List.set_cons_succ])
          refine' wpAnyH_take (i := 28) (v := _) rfl (by kernel_rfl) (by kernel_rfl) (by kernel_rfl) (fun _ _ _ h => h) (Or.inl ⟨by rfl, ?taq172⟩) (by assumption) ?tbq172
          case taq172 =>
            intro wS hSw
            (try dsimp only at hSw)
            (have q0 := (hSw.blk (.head _)).strAll HZL.out (by omega); have q1 := (hSw.blk (.tail _ (.head _))).strOwn (n := 32 + 32) HHL.out hcap5 hcm5; have q2 := (hSw.blk (.tail _ (.tail _ (.head _)))).strAll HQL.out (by omega); have q3 := (hSw.blk (.tail _ (.tail _ (.tail _ (.head _))))).strAll HL3.out (by omega); have q4 := (hSw.blk (.tail _ (.tail _ (.tail _ (.tail _ (.head _)))))).strAll HQL.out (by omega); have q5 := (hSw.blk (.tail _ (.tail _ (.tail _ (.tail _ (.tail _ (.head _))))))).strAll HPL.out (by omega); clear hSw; go_simp)
            (try (with_reducible rfl))
          (try simp only [List.getElem_toArray, List.getElem_cons_zero, List.getElem_cons_succ, Act.put, List.setIfInBounds_toArray, List.set_cons_zero, List.set_cons_succ])
          refine' wpAnyH_take (i := 29) (v := _) rfl (by kernel_rfl) (by kernel_rfl) (by kernel_rfl) (fun _ _ _ h => h) (Or.inl ⟨by rfl, ?taq173⟩) (by assumption) ?tbq173
          case taq173 =>
            intro wS hSw
            (try dsimp only at hSw)
            (have q0 := (hSw.blk (.head _)).strAll HZL.out (by omega); have q1 := (hSw.blk (.tail _ (.head _))).strOwn (n := 32 + 32) HHL.out hcap5 hcm5; have q2 := (hSw.blk (.tail _ (.tail _ (.head _)))).strAll HQL.out (by omega); have q3 := (hSw.blk (.tail _ (.tail _ (.tail _ (.head _))))).strAll HL3.out (by omega); have q4 := (hSw.blk (.tail _ (.tail _ (.tail _ (.tail _ (.head _)))))).strAll HQL.out (by omega); have q5 := (hSw.blk (.tail _ (.tail _ (.tail _ (.tail _ (.tail _ (.head _))))))).strAll HPL.out (by omega); clear hSw; go_simp)
            (try (with_reducible rfl))
          (try simp only [List.getElem_toArray, List.getElem_cons_zero, List.getElem_cons_succ, Act.put, List.setIfInBounds_toArray, List.set_cons_zero, List.set_cons_succ])
          refine' wpAnyH_take (i := 30) (v := _) rfl (by kernel_rfl) (by kernel_rfl) (by kernel_rfl) (fun _ _ _ h => h) (Or.inl ⟨by rfl, ?taq174⟩) (by assumption) ?tbq174
          case taq174 =>
            intro wS hSw
            (try dsimp only at hSw)
            (have q0 := (hSw.blk (.head _)).strAll HZL.out (by omega); have q1 := (hSw.blk (.tail _ (.head _))).strOwn (n := 32 + 32) HHL.out hcap5 hcm5; have q2 := (hSw.blk (.tail _ (.tail _ (.head _)))).strAll HQL.out (by omega); have q3 := (hSw.blk (.tail _ (.tail _ (.tail _ (.head _))))).strAll HL3.out (by omega); have q4 := (hSw.blk (.tail _ (.tail _ (.tail _ (.tail _ (.head _)))))).strAll HQL.out (by omega); have q5 := (hSw.blk (.tail _ (.tail _ (.tail _ (.tail _ (.tail _ (.head _))))))).strAll HPL.out (by omega); clear hSw; go_simp)
            (try (with_reducible rfl))
          (try simp only [List.getElem_toArray, List.getElem_cons_zero, List.getElem_cons_succ, Act.put, List.setIfInBounds_toArray, List.set_cons_zero, List.set_cons_succ])
          refine' wpAnyH_take (i := 31) (v := _) rfl (by kernel_rfl) (by kernel_rfl) (by kernel_rfl) (fun _ _ _ h => h) (Or.inr ⟨by rfl, rfl⟩) (by assumption) ?tbq175
          (try simp only [List.getElem_toArray, List.getElem_cons_zero, List.getElem_cons_succ, Act.put, List.setIfInBounds_toArray, List.set_cons_zero, List.set_cons_succ])
          refine' wpAnyH_take (i := 32) (v := _) rfl (by kernel_rfl) (by kernel_rfl) (by kernel_rfl) (fun _ _ _ h => h) (Or.inr ⟨by rfl, rfl⟩) (by assumption) ?tbq176
          (try simp only [List.getElem_toArray, List.getElem_cons_zero, List.getElem_cons_succ, Act.put, List.setIfInBounds_toArray, List.set_cons_zero, List.set_cons_succ])
          refine' wpAnyH_take (i := 33) (v := _) rfl (by kernel_rfl) (by kernel_rfl) (by kernel_rfl) (fun _ _ _ h => h) (Or.inr ⟨by rfl, rfl⟩) (by assumption) ?tbq177
          (try simp only [List.getElem_toArray, List.getElem_cons_zero, List.getElem_cons_succ, Act.put, List.setIfInBounds_toArray, List.set_cons_zero, List.set_cons_succ])
          refine' wpAnyH_take (i := 34) (v := _) rfl (by kernel_rfl) (by kernel_rfl) (by kernel_rfl) (fun _ _ _ h => h) (Or.inr ⟨by rfl, rfl⟩) (by assumption) ?tbq178
          (try simp only [List.getElem_toArray, List.getElem_cons_zero, List.getElem_cons_succ, Act.put, List.setIfInBounds_toArray, List.set_cons_zero, List.set_cons_succ])
          refine' wpAnyH_take (i := 35) (v := _) rfl (by kernel_rfl) (by kernel_rfl) (by kernel_rfl) (fun _ _ _ h => h) (Or.inr ⟨by rfl, rfl⟩) (by assumption) ?tbq179
          (try simp only [List.getElem_toArray, List.getElem_cons_zero, List.getElem_cons_succ, Act.put, List.setIfInBounds_toArray, List.set_cons_zero, List.set_cons_succ])
          refine' wpAnyH_take (i := 36) (v := _) rfl (by kernel_rfl) (by kernel_rfl) (by kernel_rfl) (fun _ _ _ h => h) (Or.inl ⟨by rfl, ?taq180⟩) (by assumption) ?tbq180
          case taq180 =>
            intro wS hSw
            (try dsimp only at hSw)
            (have q0 := (hSw.blk (.head _)).strAll HZL.out (by omega); have q1 := (hSw.blk (.tail _ (.head _))).strOwn (n := 32 + 32) HHL.out hcap5 hcm5; have q2 := (hSw.blk (.tail _ (.tail _ (.head _)))).strAll HQL.out (by omega); have q3 := (hSw.blk (.tail _ (.tail _ (.tail _ (.head _))))).strAll HL3.out (by omega); have q4 := (hSw.blk (.tail _ (.tail _ (.tail _ (.tail _ (.head _)))))).strAll HQL.out (by omega); have q5 := (hSw.blk (.tail _ (.tail _ (.tail _ (.tail _ (.tail _ (.head _))))))).strAll HPL.out (by omega); clear hSw; go_simp)
            (try (with_reducible rfl))
          (try simp only [List.getElem_toArray, List.getElem_cons_zero, List.getElem_cons_succ, Act.put, List.setIfInBounds_toArray, List.set_cons_zero, List.set_cons_succ])
          refine' wpAnyH_take (i := 37) (v := _) rfl (by kernel_rfl) (by kernel_rfl) (by kernel_rfl) (fun _ _ _ h => h) (Or.inl ⟨by rfl, ?taq181⟩) (by assumption) ?tbq181
          case taq181 =>
            intro wS hSw
            (try dsimp only at hSw)
            (have q0 := (hSw.blk (.head _)).strAll HZL.out (by omega); have q1 := (hSw.blk (.tail _ (.head _))).strOwn (n := 32 + 32) HHL.out hcap5 hcm5; have q2 := (hSw.blk (.tail _ (.tail _ (.head _)))).strAll HQL.out (by omega); have q3 := (hSw.blk (.tail _ (.tail _ (.tail _ (.head _))))).strAll HL3.out (by omega); have q4 := (hSw.blk (.tail _ (.tail _ (.tail _ (.tail _ (.head _)))))).strAll HQL.out (by omega); have q5 := (hSw.blk (.tail _ (.tail _ (.tail _ (.tail _ (.tail _ (.head _))))))).strAll HPL.out (by omega); clear hSw; go_simp)
            (try (with_reducible rfl))
          (try simp only [List.getElem_toArray, List.getElem_cons_zero, List.getElem_cons_succ, Act.put, List.setIfInBounds_toArray, List.set_cons_zero, List.set_cons_succ])
          refine' wpAnyH_take (i := 38) (v := _) rfl (by kernel_rfl) (by kernel_rfl) (by kernel_rfl) (fun _ _ _ h => h) (Or.inl ⟨by rfl, ?taq182⟩) (by assumption) ?tbq182
          case taq182 =>
            intro wS hSw
            (try dsimp only at hSw)
            (have q0 := (hSw.blk (.head _)).strAll HZL.out (by omega); have q1 := (hSw.blk (.tail _ (.head _))).strOwn (n := 32 + 32) HHL.out hcap5 hcm5; have q2 := (hSw.blk (.tail _ (.tail _ (.head _)))).strAll HQL.out (by omega); have q3 := (hSw.blk (.tail _ (.tail _ (.tail _ (.head _))))).strAll HL3.out (by omega); have q4 := (hSw.blk (.tail _ (.tail _ (.tail _ (.tail _ (.head _)))))).strAll HQL.out (by omega); have q5 := (hSw.blk (.tail _ (.tail _ (.tail _ (.tail _ (.tail _ (.head _))))))).strAll HPL.out (by omega); clear hSw; go_simp)
            (try (with_reducible rfl))
          (try simp only [List.getElem_toArray, List.getElem_cons_zero, List.getElem_cons_succ, Act.put, List.setIfInBounds_toArray, List.set_cons_zero, List.set_cons_succ])
          refine' wpAnyH_take (i := 39) (v := _) rfl (by kernel_rfl) (by kernel_rfl) (by kernel_rfl) (fun _ _ _ h => h) (Or.inl ⟨by rfl, ?taq183⟩) (by assumption) ?tbq183
          case taq183 =>
            intro wS hSw
            (try dsimp only at hSw)
            (have q0 := (hSw.blk (.head _)).strAll HZL.out (by omega); have q1 := (hSw.blk (.tail _ (.head _))).strOwn (n := 32 + 32) HHL.out hcap5 hcm5; have q2 := (hSw.blk (.tail _ (.tail _ (.head _)))).strAll HQL.out (by omega); have q3 := (hSw.blk (.tail _ (.tail _ (.tail _ (.head _))))).strAll HL3.out (by omega); have q4 := (hSw.blk (.tail _ (.tail _ (.tail _ (.tail _ (.head _)))))).strAll HQL.out (by omega); have q5 := (hSw.blk (.tail _ (.tail _ (.tail _ (.tail _ (.tail _ (.head _))))))).strAll HPL.out (by omega); clear hSw; go_simp)
            (try (with_reducible rfl))
          (try simp only [List.getElem_toArray, List.getElem_cons_zero, List.getElem_cons_succ, Act.put, List.setIfInBounds_toArray, List.set_cons_zero, List.set_cons_succ])
          refine' wpAnyH_take (i := 40) (v := _) rfl (by kernel_rfl) (by kernel_rfl) (by kernel_rfl) (fun _ _ _ h => h) (Or.inl ⟨by rfl, ?taq184⟩) (by assumption) ?tbq184
          case taq184 =>
            intro wS hSw
            (try dsimp only at hSw)
            (have q0 := (hSw.blk (.head _)).strAll HZL.out (by omega); have q1 := (hSw.blk (.tail _ (.head _))).strOwn (n := 32 + 32) HHL.out hcap5 hcm5; have q2 := (hSw.blk (.tail _ (.tail _ (.head _)))).strAll HQL.out (by omega); have q3 := (hSw.blk (.tail _ (.tail _ (.tail _ (.head _))))).strAll HL3.out (by omega); have q4 := (hSw.blk (.tail _ (.tail _ (.tail _ (.tail _ (.head _)))))).strAll HQL.out (by omega); have q5 := (hSw.blk (.tail _ (.tail _ (.tail _ (.tail _ (.tail _ (.head _))))))).strAll HPL.out (by omega); clear hSw; go_simp)
            (try (with_reducible rfl))
          (try simp only [List.getElem_toArray, List.getElem_cons_zero, List.getElem_cons_succ, Act.put, List.setIfInBounds_toArray, List.set_cons_zero, List.set_cons_succ])
          refine wpAnyH_ready (rs := [41]) (by kernel_rfl) (by simp) ?_
          refine AllReadyH.cons rfl (fun K9 hK9 => ?_) AllReadyH.nil
          (try simp only [List.getElem_toArray, List.getElem_cons_zero, List.getElem_cons_succ])
          go_simp
          refine (ds_full D12.out.drew 0 0 rfl).mono ?_
          rw [HZ.out]
          rintro en we ⟨g7, rfl, h⟩
          have D13 := Lib.hid h
          have D13s := Lib.hid (h.sub (bs' := [(g6, 58, bytesV Z), (g5, 5, bytesV H ++ rest5), (g4, 58, bytesV r), (g3, 58, bytesV r), (g2, 5, bytesV r), (g1, 5, bytesV P)]) (fun b hb => .tail _ hb))
          have q7 := (h.blk (.head _)).strAll HZL.out (by omega)
          clear h
          refine hK9.out _ _ (D13s.out) (fun hHeld9 => ?_)
          clear hK9 K9
          (try simp only [List.getElem_toArray, List.getElem_cons_zero, List.getElem_cons_succ, Act.put, List.setIfInBounds_toArray, List.set_cons_zero, List.set_cons_succ])
          refine wpAnyH_ready (rs := [42]) (by kernel_rfl) (by simp) ?_
          refine AllReadyH.cons rfl (fun K9 hK9 => ?_) AllReadyH.nil
          (try simp only [List.getElem_toArray, List.getElem_cons_zero, List.getElem_cons_succ])
          go_simp
          refine hK9.out _ _ (D13s.out) (fun hHeld9 => ?_)
          clear hK9 K9
          (try simp only [List.getElem_toArray, List.getElem_cons_zero, List.getElem_cons_succ, Act.put, List.setIfInBounds_toArray, List.set_cons_zero, List.set_cons_succ])
          refine' wpAnyH_take (i := 43) (v := _) rfl (by kernel_rfl) (by kernel_rfl) (by kernel_rfl) (fun _ _ _ h => h) (Or.inl ⟨by rfl, ?taq185⟩) (by assumption) ?tbq185
          case taq185 =>
            intro wS hSw
            (try dsimp only at hSw)
            (have q0 := (hSw.blk (.head _)).strAll HZL.out (by omega); have q1 := (hSw.blk (.tail _ (.head _))).strOwn (n := 32 + 32) HHL.out hcap5 hcm5; have q2 := (hSw.blk (.tail _ (.tail _ (.head _)))).strAll HQL.out (by omega); have q3 := (hSw.blk (.tail _ (.tail _ (.tail _ (.head _))))).strAll HL3.out (by omega); have q4 := (hSw.blk (.tail _ (.tail _ (.tail _ (.tail _ (.head _)))))).strAll HQL.out (by omega); have q5 := (hSw.blk (.tail _ (.tail _ (.tail _ (.tail _ (.tail _ (.head _))))))).strAll HPL.out (by omega); clear hSw; go_simp)
            (try (with_reducible rfl))
          (try simp only [List.getElem_toArray, List.getElem_cons_zero, List.getElem_cons_succ, Act.put, List.setIfInBounds_toArray, List.set_cons_zero, List.set_cons_succ])
          refine' wpAnyH_take (i := 44) (v := _) rfl (by kernel_rfl) (by kernel_rfl) (by kernel_rfl) (fun _ _ _ h => h) (Or.inl ⟨by rfl, ?taq186⟩) (by assumption) ?tbq186
          case taq186 =>
            intro wS hSw
            (try dsimp only at hSw)
            (have q0 := (hSw.blk (.head _)).strAll HZL.out (by omega); have q1 := (hSw.blk (.tail _ (.head _))).strOwn (n := 32 + 32) HHL.out hcap5 hcm5; have q2 := (hSw.blk (.tail _ (.tail _ (.head _)))).strAll HQL.out (by omega); have q3 := (hSw.blk (.tail _ (.tail _ (.tail _ (.head _))))).strAll HL3.out (by omega); have q4 := (hSw.blk (.tail _ (.tail _ (.tail _ (.tail _ (.head _)))))).strAll HQL.out (by omega); have q5 := (hSw.blk (.tail _ (.tail _ (.tail _ (.tail _ (.tail _ (.head _))))))).strAll HPL.out (by omega); clear hSw; go_simp)
            (try (with_reducible rfl))
          (try simp only [List.getElem_toArray, List.getElem_cons_zero, List.getElem_cons_succ, Act.put, List.setIfInBounds_toArray, List.set_cons_zero, List.set_cons_succ])
          refine' wpAnyH_take (i := 45) (v := _) rfl (by kernel_rfl) (by kernel_rfl) (by kernel_rfl) (fun _ _ _ h => h) (Or.inl ⟨by rfl, ?taq187⟩) (by assumption) ?tbq187
          case taq187 =>
            intro wS hSw
            (try dsimp only at hSw)
            (have q0 := (hSw.blk (.head _)).strAll HZL.out (by omega); have q1 := (hSw.blk (.tail _ (.head _))).strOwn (n := 32 + 32) HHL.out hcap5 hcm5; have q2 := (hSw.blk (.tail _ (.tail _ (.head _)))).strAll HQL.out (by omega); have q3 := (hSw.blk (.tail _ (.tail _ (.tail _ (.head _))))).strAll HL3.out (by omega); have q4 := (hSw.blk (.tail _ (.tail _ (.tail _ (.tail _ (.head _)))))).strAll HQL.out (by omega); have q5 := (hSw.blk (.tail _ (.tail _ (.tail _ (.tail _ (.tail _ (.head _))))))).strAll HPL.out (by omega); clear hSw; go_simp)
            (try (with_reducible rfl))
          (try simp only [List.getElem_toArray, List.getElem_cons_zero, List.getElem_cons_succ, Act.put, List.setIfInBounds_toArray, List.set_cons_zero, List.set_cons_succ])
          refine wpAnyH_ready (rs := [46]) (by kernel_rfl) (by simp) ?_
          refine AllReadyH.cons rfl (fun K9 hK9 => ?_) AllReadyH.nil
          (try simp only [List.getElem_toArray, List.getElem_cons_zero, List.getElem_cons_succ])
          go_simp
          refine (awake5_any we).mono ?_
          rintro en wf ⟨rfl, hbf⟩
          have D14 := Lib.hid (D13s.out.below hbf)
          clear hbf
          refine hK9.out _ _ (D14.out) (fun hHeld9 => ?_)
          clear hK9 K9
          (try simp only [List.getElem_toArray, List.getElem_cons_zero, List.getElem_cons_succ, Act.put, List.setIfInBounds_toArray, List.set_cons_zero, List.set_cons_succ])
          refine' wpAnyH_take (i := 47) (v := _) rfl (by kernel_rfl) (by kernel_rfl) (by kernel_rfl) (fun _ _ _ h => h) (Or.inl ⟨by rfl, ?taq188⟩) (by assumption) ?tbq188
          case taq188 =>
            intro wS hSw
            (try dsimp only at hSw)
            (have q0 := (hSw.blk (.head _)).strAll HZL.out (by omega); have q1 := (hSw.blk (.tail _ (.head _))).strOwn (n := 32 + 32) HHL.out hcap5 hcm5; have q2 := (hSw.blk (.tail _ (.tail _ (.head _)))).strAll HQL.out (by omega); have q3 := (hSw.blk (.tail _ (.tail _ (.tail _ (.head _))))).strAll HL3.out (by omega); have q4 := (hSw.blk (.tail _ (.tail _ (.tail _ (.tail _ (.head _)))))).strAll HQL.out (by omega); have q5 := (hSw.blk (.tail _ (.tail _ (.tail _ (.tail _ (.tail _ (.head _))))))).strAll HPL.out (by omega); clear hSw; go_simp)
            (try (with_reducible rfl))
          (try simp only [List.getElem_toArray, List.getElem_cons_zero, List.getElem_cons_succ, Act.put, List.setIfInBounds_toArray, List.set_cons_zero, List.set_cons_succ])
          refine' wpAnyH_take (i := 48) (v := _) rfl (by kernel_rfl) (by kernel_rfl) (by kernel_rfl) (fun _ _ _ h => h) (Or.inl ⟨by rfl, ?taq189⟩) (by assumption) ?tbq189
          case taq189 =>
            intro wS hSw
            (try dsimp only at hSw)
            (have q0 := (hSw.blk (.head _)).strAll HZL.out (by omega); have q1 := (hSw.blk (.tail _ (.head _))).strOwn (n := 32 + 32) HHL.out hcap5 hcm5; have q2 := (hSw.blk (.tail _ (.tail _ (.head _)))).strAll HQL.out (by omega); have q3 := (hSw.blk (.tail _ (.tail _ (.tail _ (.head _))))).strAll HL3.out (by omega); have q4 := (hSw.blk (.tail _ (.tail _ (.tail _ (.tail _ (.head _)))))).strAll HQL.out (by omega); have q5 := (hSw.blk (.tail _ (.tail _ (.tail _ (.tail _ (.tail _ (.head _))))))).strAll HPL.out (by omega); clear hSw; go_simp)
            (try (with_reducible rfl))
          (try simp only [List.getElem_toArray, List.getElem_cons_zero, List.getElem_cons_succ, Act.put, List.setIfInBounds_toArray, List.set_cons_zero, List.set_cons_succ])
          refine wpAnyH_done (by kernel_rfl) ?_ _
          go_wp2
          go_ret
          exact ⟨rfl, D14.out.bel⟩
        · subst hr
          have n1 : (r == P) = false := beq_eq_false_iff_ne.2 hn1
          clear hn1
          have n2 : (r == Q) = false := beq_eq_false_iff_ne.2 hn2
          clear hn2
          refine wp_region_held_drew (S := (fun w' => DS w w' [(d, sD.crash a4)] [(g6, 58, bytesV Z), (g5, 5, bytesV r ++ rest5), (g4, 58, bytesV Q), (g3, 58, bytesV r), (g2, 5, bytesV Q), (g1, 5, bytesV P)])) (by kernel_rfl) (D12.out.drew) (fun hHeld => ?_)
          refine' wpAnyH_take (i := 0) (v := _) rfl (by kernel_rfl) (by kernel_rfl) (by kernel_rfl) (fun _ _ _ h => h) (Or.inl ⟨by rfl, ?taq190⟩) (by assumption) ?tbq190
          case taq190 =>
            intro wS hSw
            (try dsimp only at hSw)
            (have q0 := (hSw.blk (.head _)).strAll HZL.out (by omega); have q1 := (hSw.blk (.tail _ (.head _))).strOwn (n := 32 + 32) HHL.out hcap5 hcm5; have q2 := (hSw.blk (.tail _ (.tail _ (.head _)))).strAll HQL.out (by omega); have q3 := (hSw.blk (.tail _ (.tail _ (.tail _ (.head _))))).strAll HL3.out (by omega); have q4 := (hSw.blk (.tail _ (.tail _ (.tail _ (.tail _ (.head _)))))).strAll HQL.out (by omega); have q5 := (hSw.blk (.tail _ (.tail _ (.tail _ (.tail _ (.tail _ (.head _))))))).strAll HPL.out (by omega); clear hSw; go_simp)
            (try (with_reducible rfl))
          (try simp only [List.getElem_toArray, List.getElem_cons_zero, List.getElem_cons_succ, Act.put, List.setIfInBounds_toArray, List.set_cons_zero, List.set_cons_succ])
          refine' wpAnyH_take (i := 1) (v := _) rfl (by kernel_rfl) (by kernel_rfl) (by kernel_rfl) (fun _ _ _ h => h) (Or.inl ⟨by rfl, ?taq191⟩) (by assumption) ?tbq191
          case taq191 =>
            intro wS hSw
            (try dsimp only at hSw)
            (have q0 := (hSw.blk (.head _)).strAll HZL.out (by omega); have q1 := (hSw.blk (.tail _ (.head _))).strOwn (n := 32 + 32) HHL.out hcap5 hcm5; have q2 := (hSw.blk (.tail _ (.tail _ (.head _)))).strAll HQL.out (by omega); have q3 := (hSw.blk (.tail _ (.tail _ (.tail _ (.head _))))).strAll HL3.out (by omega); have q4 := (hSw.blk (.tail _ (.tail _ (.tail _ (.tail _ (.head _)))))).strAll HQL.out (by omega); have q5 := (hSw.blk (.tail _ (.tail _ (.tail _ (.tail _ (.tail _ (.head _))))))).strAll HPL.out (by omega); clear hSw; go_simp)
            (try (with_reducible rfl))
          (try simp only [List.getElem_toArray, List.getElem_cons_zero, List.getElem_cons_succ, Act.put, List.setIfInBounds_toArray, List.set_cons_zero, List.set_cons_succ])
          refine' wpAnyH_take (i := 2) (v := _) rfl (by kernel_rfl) (by kernel_rfl) (by kernel_rfl) (fun _ _ _ h => h) (Or.inl ⟨by rfl, ?taq192⟩) (by assumption) ?tbq192
          case taq192 =>
            intro wS hSw
            (try dsimp only at hSw)
            (have q0 := (hSw.blk (.head _)).strAll HZL.out (by omega); have q1 := (hSw.blk (.tail _ (.head _))).strOwn (n := 32 + 32) HHL.out hcap5 hcm5; have q2 := (hSw.blk (.tail _ (.tail _ (.head _)))).strAll HQL.out (by omega); have q3 := (hSw.blk (.tail _ (.tail _ (.tail _ (.head _))))).strAll HL3.out (by omega); have q4 := (hSw.blk (.tail _ (.tail _ (.tail _ (.tail _ (.head _)))))).strAll HQL.out (by omega); have q5 := (hSw.blk (.tail _ (.tail _ (.tail _ (.tail _ (.tail _ (.head _))))))).strAll HPL.out (by omega); clear hSw; go_simp)
            (try (with_reducible rfl))
          (try simp only [List.getElem_toArray, List.getElem_cons_zero, List.getElem_cons_succ, Act.put, List.setIfInBounds_toArray, List.set_cons_zero, List.set_cons_succ])
          refine' wpAnyH_take (i := 3) (v := _) rfl (by kernel_rfl) (by kernel_rfl) (by kernel_rfl) (fun _ _ _ h => h) (Or.inl ⟨by rfl, ?taq193⟩) (by assumption) ?tbq193
          case taq193 =>
            intro wS hSw
            (try dsimp only at hSw)
            (have q0 := (hSw.blk (.head _)).strAll HZL.out (by omega); have q1 := (hSw.blk (.tail _ (.head _))).strOwn (n := 32 + 32) HHL.out hcap5 hcm5; have q2 := (hSw.blk (.tail _ (.tail _ (.head _)))).strAll HQL.out (by omega); have q3 := (hSw.blk (.tail _ (.tail _ (.tail _ (.head _))))).strAll HL3.out (by omega); have q4 := (hSw.blk (.tail _ (.tail _ (.tail _ (.tail _ (.head _)))))).strAll HQL.out (by omega); have q5 := (hSw.blk (.tail _ (.tail _ (.tail _ (.tail _ (.tail _ (.head _))))))).strAll HPL.out (by omega); clear hSw; go_simp)
            (try (with_reducible rfl))
          (try simp only [List.getElem_toArray, List.getElem_cons_zero, List.getElem_cons_succ, Act.put, List.setIfInBounds_toArray, List.set_cons_zero, List.set_cons_succ])
          refine' wpAnyH_take (i := 4) (v := _) rfl (by kernel_rfl) (by kernel_rfl) (by kernel_rfl) (fun _ _ _ h => h) (Or.inl ⟨by rfl, ?taq194⟩) (by assumption) ?tbq194
          case taq194 =>
            intro wS hSw
            (try dsimp only at hSw)
            (have q0 := (hSw.blk (.head _)).strAll HZL.out (by omega); have q1 := (hSw.blk (.tail _ (.head _))).strOwn (n := 32 + 32) HHL.out hcap5 hcm5; have q2 := (hSw.blk (.tail _ (.tail _ (.head _)))).strAll HQL.out (by omega); have q3 := (hSw.blk (.tail _ (.tail _ (.tail _ (.head _))))).strAll HL3.out (by omega); have q4 := (hSw.blk (.tail _ (.tail _ (.tail _ (.tail _ (.head _)))))).strAll HQL.out (by omega); have q5 := (hSw.blk (.tail _ (.tail _ (.tail _ (.tail _ (.tail _ (.head _))))))).strAll HPL.out (by omega); clear hSw; go_simp)
            (try (with_reducible rfl))
          (try simp only [List.getElem_toArray, List.getElem_cons_zero, List.getElem_cons_succ, Act.put, List.setIfInBounds_toArray, List.set_cons_zero, List.set_cons_succ])
          refine' wpAnyH_take (i := 5) (v := _) rfl (by kernel_rfl) (by kernel_rfl) (by kernel_rfl) (fun _ _ _ h => h) (Or.inl ⟨by rfl, ?taq195⟩) (by assumption) ?tbq195
          case taq195 =>
            intro wS hSw
            (try dsimp only at hSw)
            (have q0 := (hSw.blk (.head _)).strAll HZL.out (by omega); have q1 := (hSw.blk (.tail _ (.head _))).strOwn (n := 32 + 32) HHL.out hcap5 hcm5; have q2 := (hSw.blk (.tail _ (.tail _ (.head _)))).strAll HQL.out (by omega); have q3 := (hSw.blk (.tail _ (.tail _ (.tail _ (.head _))))).strAll HL3.out (by omega); have q4 := (hSw.blk (.tail _ (.tail _ (.tail _ (.tail _ (.head _)))))).strAll HQL.out (by omega); have q5 := (hSw.blk (.tail _ (.tail _ (.tail _ (.tail _ (.tail _ (.head _))))))).strAll HPL.out (by omega); clear hSw; go_simp)
            (try (with_reducible rfl))
          (try simp only [List.getElem_toArray, List.getElem_cons_zero, List.getElem_cons_succ, Act.put, List.setIfInBounds_toArray, List.set_cons_zero, List.set_cons_succ])
          refine' wpAnyH_take (i := 6) (v := _) rfl (by kernel_rfl) (by kernel_rfl) (by kernel_rfl) (fun _ _ _ h => h) (Or.inl ⟨by rfl, ?taq196⟩) (by assumption) ?tbq196
          case taq196 =>
            intro wS hSw
            (try dsimp only at hSw)
            (have q0 := (hSw.blk (.head _)).strAll HZL.out (by omega); have q1 := (hSw.blk (.tail _ (.head _))).strOwn (n := 32 + 32) HHL.out hcap5 hcm5; have q2 := (hSw.blk (.tail _ (.tail _ (.head _)))).strAll HQL.out (by omega); have q3 := (hSw.blk (.tail _ (.tail _ (.tail _ (.head _))))).strAll HL3.out (by omega); have q4 := (hSw.blk (.tail _ (.tail _ (.tail _ (.tail _ (.head _)))))).strAll HQL.out (by omega); have q5 := (hSw.blk (.tail _ (.tail _ (.tail _ (.tail _ (.tail _ (.head _))))))).strAll HPL.out (by omega); clear hSw; go_simp)
            (try (with_reducible rfl))
          (try simp only [List.getElem_toArray, List.getElem_cons_zero, List.getElem_cons_succ, Act.put, List.setIfInBounds_toArray, List.set_cons_zero, List.set_cons_succ])
          refine' wpAnyH_take (i := 7) (v := _) rfl (by kernel_rfl) (by kernel_rfl) (by kernel_rfl) (fun _ _ _ h => h) (Or.inl ⟨by rfl, ?taq197⟩) (by assumption) ?tbq197
          case taq197 =>
            intro wS hSw
            (try dsimp only at hSw)
            (have q0 := (hSw.blk (.head _)).strAll HZL.out (by omega); have q1 := (hSw.blk (.tail _ (.head _))).strOwn (n := 32 + 32) HHL.out hcap5 hcm5; have q2 := (hSw.blk (.tail _ (.tail _ (.head _)))).strAll HQL.out (by omega); have q3 := (hSw.blk (.tail _ (.tail _ (.tail _ (.head _))))).strAll HL3.out (by omega); have q4 := (hSw.blk (.tail _ (.tail _ (.tail _ (.tail _ (.head _)))))).strAll HQL.out (by omega); have q5 := (hSw.blk (.tail _ (.tail _ (.tail _ (.tail _ (.tail _ (.head _))))))).strAll HPL.out (by omega); clear hSw; go_simp)
            (try (with_reducible rfl))
          (try simp only [List.getElem_toArray, List.getElem_cons_zero, List.getElem_cons_succ, Act.put, List.setIfInBounds_toArray, List.set_cons_zero, List.set_cons_succ])
          refine' wpAnyH_take (i := 8) (v := _) rfl (by kernel_rfl) (by kernel_rfl) (by kernel_rfl) (fun _ _ _ h => h) (Or.inl ⟨by rfl, ?taq198⟩) (by assumption) ?tbq198
          case taq198 =>
            intro wS hSw
            (try dsimp only at hSw)
            (have q0 := (hSw.blk (.head _)).strAll HZL.out (by omega); have q1 := (hSw.blk (.tail _ (.head _))).strOwn (n := 32 + 32) HHL.out hcap5 hcm5; have q2 := (hSw.blk (.tail _ (.tail _ (.head _)))).strAll HQL.out (by omega); have q3 := (hSw.blk (.tail _ (.tail _ (.tail _ (.head _))))).strAll HL3.out (by omega); have q4 := (hSw.blk (.tail _ (.tail _ (.tail _ (.tail _ (.head _)))))).strAll HQL.out (by omega); have q5 := (hSw.blk (.tail _ (.tail _ (.tail _ (.tail _ (.tail _ (.head _))))))).strAll HPL.out (by omega); clear hSw; go_simp)
            (try (with_reducible rfl))
          (try simp only [List.getElem_toArray, List.getElem_cons_zero, List.getElem_cons_succ, Act.put, List.setIfInBounds_toArray, List.set_cons_zero, List.set_cons_succ])
          refine' wpAnyH_take (i := 9) (v := _) rfl (by kernel_rfl) (by kernel_rfl) (by kernel_rfl) (fun _ _ _ h => h) (Or.inl ⟨by rfl, ?taq199⟩) (by assumption) ?tbq199
          case taq199 =>
            intro wS hSw
            (try dsimp only at hSw)
            (have q0 := (hSw.blk (.head _)).strAll HZL.out (by omega); have q1 := (hSw.blk (.tail _ (.head _))).strOwn (n := 32 + 32) HHL.out hcap5 hcm5; have q2 := (hSw.blk (.tail _ (.tail _ (.head _)))).strAll HQL.out (by omega); have q3 := (hSw.blk (.tail _ (.tail _ (.tail _ (.head _))))).strAll HL3.out (by omega); have q4 := (hSw.blk (.tail _ (.tail _ (.tail _ (.tail _ (.head _)))))).strAll HQL.out (by omega); have q5 := (hSw.blk (.tail _ (.tail _ (.tail _ (.tail _ (.tail _ (.head _))))))).strAll HPL.out (by omega); clear hSw; go_simp)
            (try (with_reducible rfl))
          (try simp only [List.getElem_toArray, List.getElem_cons_zero, List.getElem_cons_succ, Act.put, List.setIfInBounds_toArray, List.set_cons_zero, List.set_cons_succ])
          refine' wpAnyH_take (i := 10) (v := _) rfl (by kernel_rfl) (by kernel_rfl) (by kernel_rfl) (fun _ _ _ h => h) (Or.inl ⟨by rfl, ?taq200⟩) (by assumption) ?tbq200
          case taq200 =>
            intro wS hSw
            (try dsimp only at hSw)
            (have q0 := (hSw.blk (.head _)).strAll HZL.out (by omega); have q1 := (hSw.blk (.tail _ (.head _))).strOwn (n := 32 + 32) HHL.out hcap5 hcm5; have q2 := (hSw.blk (.tail _ (.tail _ (.head _)))).strAll HQL.out (by omega); have q3 := (hSw.blk (.tail _ (.tail _ (.tail _ (.head _))))).strAll HL3.out (by omega); have q4 := (hSw.blk (.tail _ (.tail _ (.tail _ (.tail _ (.head _)))))).strAll HQL.out (by omega); have q5 := (hSw.blk (.tail _ (.tail _ (.tail _ (.tail _ (.tail _ (.head _))))))).strAll HPL.out (by omega); clear hSw; go_simp)
            (try (with_reducible rfl))
          (try simp only [List.getElem_toArray, List.getElem_cons_zero, List.getElem_cons_succ, Act.put, List.setIfInBounds_toArray, List.set_cons_zero, List.set_cons_succ])
          refine' wpAnyH_take (i := 11) (v := _) rfl (by kernel_rfl) (by kernel_rfl) (by kernel_rfl) (fun _ _ _ h => h) (Or.inl ⟨by rfl, ?taq201⟩) (by assumption) ?tbq201
          case taq201 =>
            intro wS hSw
            (try dsimp only at hSw)
            (have q0 := (hSw.blk (.head _)).strAll HZL.out (by omega); have q1 := (hSw.blk (.tail _ (.head _))).strOwn (n := 32 + 32) HHL.out hcap5 hcm5; have q2 := (hSw.blk (.tail _ (.tail _ (.head _)))).strAll HQL.out (by omega); have q3 := (hSw.blk (.tail _ (.tail _ (.tail _ (.head _))))).strAll HL3.out (by omega); have q4 := (hSw.blk (.tail _ (.tail _ (.tail _ (.tail _ (.head _)))))).strAll HQL.out (by omega); have q5 := (hSw.blk (.tail _ (.tail _ (.tail _ (.tail _ (.tail _ (.head _))))))).strAll HPL.out (by omega); clear hSw; go_simp)
            (try (with_reducible rfl))
          (try simp only [List.getElem_toArray, List.getElem_cons_zero, List.getElem_cons_succ, Act.put, List.setIfInBounds_toArray, List.set_cons_zero, List.set_cons_succ])
          refine' wpAnyH_take (i := 12) (v := _) rfl (by kernel_rfl) (by kernel_rfl) (by kernel_rfl) (fun _ _ _ h => h) (Or.inl ⟨by rfl, ?taq202⟩) (by assumption) ?tbq202
          case taq202 =>
            intro wS hSw
            (try dsimp only at hSw)
            (have q0 := (hSw.blk (.head _)).strAll HZL.out (by omega); have q1 := (hSw.blk (.tail _ (.head _))).strOwn (n := 32 + 32) HHL.out hcap5 hcm5; have q2 := (hSw.blk (.tail _ (.tail _ (.head _)))).strAll HQL.out (by omega); have q3 := (hSw.blk (.tail _ (.tail _ (.tail _ (.head _))))).strAll HL3.out (by omega); have q4 := (hSw.blk (.tail _ (.tail _ (.tail _ (.tail _ (.head _)))))).strAll HQL.out (by omega); have q5 := (hSw.blk (.tail _ (.tail _ (.tail _ (.tail _ (.tail _ (.head _))))))).strAll HPL.out (by omega); clear hSw; go_simp)
            (try (with_reducible rfl))
          (try simp only [List.getElem_toArray, List.getElem_cons_zero, List.getElem_cons_succ, Act.put, List.setIfInBounds_toArray, List.set_cons_zero, List.set_cons_succ])
          refine' wpAnyH_take (i := 13) (v := _) rfl (by kernel_rfl) (by kernel_rfl) (by kernel_rfl) (fun _ _ _ h => h) (Or.inl ⟨by rfl, ?taq203⟩) (by assumption) ?tbq203
          case taq203 =>
            intro wS hSw
            (try dsimp only at hSw)
            (have q0 := (hSw.blk (.head _)).strAll HZL.out (by omega); have q1 := (hSw.blk (.tail _ (.head _))).strOwn (n := 32 + 32) HHL.out hcap5 hcm5; have q2 := (hSw.blk (.tail _ (.tail _ (.head _)))).strAll HQL.out (by omega); have q3 := (hSw.blk (.tail _ (.tail _ (.tail _ (.head _))))).strAll HL3.out (by omega); have q4 := (hSw.blk (.tail _ (.tail _ (.tail _ (.tail _ (.head _)))))).strAll HQL.out (by omega); have q5 := (hSw.blk (.tail _ (.tail _ (.tail _ (.tail _ (.tail _ (.head _))))))).strAll HPL.out (by omega); clear hSw; go_simp)
            (try (with_reducible rfl))
          (try simp only [List.getElem_toArray, List.getElem_cons_zero, List.getElem_cons_succ, Act.put, List.setIfInBounds_toArray, List.set_cons_zero, List.set_cons_succ])
          refine' wpAnyH_take (i := 14) (v := _) rfl (by kernel_rfl) (by kernel_rfl) (by kernel_rfl) (fun _ _ _ h => h) (Or.inl ⟨by rfl, ?taq204⟩) (by assumption) ?tbq204
          case taq204 =>
            intro wS hSw
            (try dsimp only at hSw)
            (have q0 := (hSw.blk (.head _)).strAll HZL.out (by omega); have q1 := (hSw.blk (.tail _ (.head _))).strOwn (n := 32 + 32) HHL.out hcap5 hcm5; have q2 := (hSw.blk (.tail _ (.tail _ (.head _)))).strAll HQL.out (by omega); have q3 := (hSw.blk (.tail _ (.tail _ (.tail _ (.head _))))).strAll HL3.out (by omega); have q4 := (hSw.blk (.tail _ (.tail _ (.tail _ (.tail _ (.head _)))))).strAll HQL.out (by omega); have q5 := (hSw.blk (.tail _ (.tail _ (.tail _ (.tail _ (.tail _ (.head _))))))).strAll HPL.out (by omega); clear hSw; go_simp)
            (try (with_reducible rfl))
          (try simp only [List.getElem_toArray, List.getElem_cons_zero, List.getElem_cons_succ, Act.put, List.setIfInBounds_toArray, List.set_cons_zero, List.set_cons_succ])
          refine' wpAnyH_take (i := 15) (v := _) rfl (by kernel_rfl) (by kernel_rfl) (by kernel_rfl) (fun _ _ _ h => h) (Or.inl ⟨by rfl, ?taq205⟩) (by assumption) ?tbq205
          case taq205 =>
            intro wS hSw
            (try dsimp only at hSw)
            (have q0 := (hSw.blk (.head _)).strAll HZL.out (by omega); have q1 := (hSw.blk (.tail _ (.head _))).strOwn (n := 32 + 32) HHL.out hcap5 hcm5; have q2 := (hSw.blk (.tail _ (.tail _ (.head _)))).strAll HQL.out (by omega); have q3 := (hSw.blk (.tail _ (.tail _ (.tail _ (.head _))))).strAll HL3.out (by omega); have q4 := (hSw.blk (.tail _ (.tail _ (.tail _ (.tail _ (.head _)))))).strAll HQL.out (by omega); have q5 := (hSw.blk (.tail _ (.tail _ (.tail _ (.tail _ (.tail _ (.head _))))))).strAll HPL.out (by omega); clear hSw; go_simp)
            (try (with_reducible rfl))
          (try simp only [List.getElem_toArray, List.getElem_cons_zero, List.getElem_cons_succ, Act.put, List.setIfInBounds_toArray, List.set_cons_zero, List.set_cons_succ])
          refine' wpAnyH_take (i := 16) (v := _) rfl (by kernel_rfl) (by kernel_rfl) (by kernel_rfl) (fun _ _ _ h => h) (Or.inl ⟨by rfl, ?taq206⟩) (by assumption) ?tbq206
          case taq206 =>
            intro wS hSw
            (try dsimp only at hSw)
            (have q0 := (hSw.blk (.head _)).strAll HZL.out (by omega); have q1 := (hSw.blk (.tail _ (.head _))).strOwn (n := 32 + 32) HHL.out hcap5 hcm5; have q2 := (hSw.blk (.tail _ (.tail _ (.head _)))).strAll HQL.out (by omega); have q3 := (hSw.blk (.tail _ (.tail _ (.tail _ (.head _))))).strAll HL3.out (by omega); have q4 := (hSw.blk (.tail _ (.tail _ (.tail _ (.tail _ (.head _)))))).strAll HQL.out (by omega); have q5 := (hSw.blk (.tail _ (.tail _ (.tail _ (.tail _ (.tail _ (.head _))))))).strAll HPL.out (by omega); clear hSw; go_simp)
            (try (with_reducible rfl))
          (try simp only [List.getElem_toArray, List.getElem_cons_zero, List.getElem_cons_succ, Act.put, List.setIfInBounds_toArray, List.set_cons_zero, List.set_cons_succ])
          refine' wpAnyH_take (i := 17) (v := _) rfl (by kernel_rfl) (by kernel_rfl) (by kernel_rfl) (fun _ _ _ h => h) (Or.inl ⟨by rfl, ?taq207⟩) (by assumption) ?tbq207
          case taq207 =>
            intro wS hSw
            (try dsimp only at hSw)
            (have q0 := (hSw.blk (.head _)).strAll HZL.out (by omega); have q1 := (hSw.blk (.tail _ (.head _))).strOwn (n := 32 + 32) HHL.out hcap5 hcm5; have q2 := (hSw.blk (.tail _ (.tail _ (.head _)))).strAll HQL.out (by omega); have q3 := (hSw.blk (.tail _ (.tail _ (.tail _ (.head _))))).strAll HL3.out (by omega); have q4 := (hSw.blk (.tail _ (.tail _ (.tail _ (.tail _ (.head _)))))).strAll HQL.out (by omega); have q5 := (hSw.blk (.tail _ (.tail _ (.tail _ (.tail _ (.tail _ (.head _))))))).strAll HPL.out (by omega); clear hSw; go_simp)
            (try (with_reducible rfl))
          (try simp only [List.getElem_toArray, List.getElem_cons_zero, List.getElem_cons_succ, Act.put, List.setIfInBounds_toArray, List.set_cons_zero, List.set_cons_succ])
          refine' wpAnyH_take (i := 18) (v := _) rfl (by kernel_rfl) (by kernel_rfl) (by kernel_rfl) (fun _ _ _ h => h) (Or.inl ⟨by rfl, ?taq208⟩) (by assumption) ?tbq208
          case taq208 =>
            intro wS hSw
            (try dsimp only at hSw)
            (have q0 := (hSw.blk (.head _)).strAll HZL.out (by omega); have q1 := (hSw.blk (.tail _ (.head _))).strOwn (n := 32 + 32) HHL.out hcap5 hcm5; have q2 := (hSw.blk (.tail _ (.tail _ (.head _)))).strAll HQL.out (by omega); have q3 := (hSw.blk (.tail _ (.tail _ (.tail _ (.head _))))).strAll HL3.out (by omega); have q4 := (hSw.blk (.tail _ (.tail _ (.tail _ (.tail _ (.head _)))))).strAll HQL.out (by omega); have q5 := (hSw.blk (.tail _ (.tail _ (.tail _ (.tail _ (.tail _ (.head _))))))).strAll HPL.out (by omega); clear hSw; go_simp)
            (try (with_reducible rfl))
          (try simp only [List.getElem_toArray, List.getElem_cons_zero, List.getElem_cons_succ, Act.put, List.setIfInBounds_toArray, List.set_cons_zero, List.set_cons_succ])
          refine' wpAnyH_take (i := 19) (v := _) rfl (by kernel_rfl) (by kernel_rfl) (by kernel_rfl) (fun _ _ _ h => h) (Or.inl ⟨by rfl, ?taq209⟩) (by assumption) ?tbq209
          case taq209 =>
            intro wS hSw
            (try dsimp only at hSw)
            (have q0 := (hSw.blk (.head _)).strAll HZL.out (by omega); have q1 := (hSw.blk (.tail _ (.head _))).strOwn (n := 32 + 32) HHL.out hcap5 hcm5; have q2 := (hSw.blk (.tail _ (.tail _ (.head _)))).strAll HQL.out (by omega); have q3 := (hSw.blk (.tail _ (.tail _ (.tail _ (.head _))))).strAll HL3.out (by omega); have q4 := (hSw.blk (.tail _ (.tail _ (.tail _ (.tail _ (.head _)))))).strAll HQL.out (by omega); have q5 := (hSw.blk (.tail _ (.tail _ (.tail _ (.tail _ (.tail _ (.head _))))))).strAll HPL.out (by omega); clear hSw; go_simp)
            (try (with_reducible rfl))
          (try simp only [List.getElem_toArray, List.getElem_cons_zero, List.getElem_cons_succ, Act.put, List.setIfInBounds_toArray, List.set_cons_zero, List.set_cons_succ])
          refine' wpAnyH_take (i := 20) (v := _) rfl (by kernel_rfl) (by kernel_rfl) (by kernel_rfl) (fun _ _ _ h => h) (Or.inl ⟨by rfl, ?taq210⟩) (by assumption) ?tbq210
          case taq210 =>
            intro wS hSw
            (try dsimp only at hSw)
            (have q0 := (hSw.blk (.head _)).strAll HZL.out (by omega); have q1 := (hSw.blk (.tail _ (.head _))).strOwn (n := 32 + 32) HHL.out hcap5 hcm5; have q2 := (hSw.blk (.tail _ (.tail _ (.head _)))).strAll HQL.out (by omega); have q3 := (hSw.blk (.tail _ (.tail _ (.tail _ (.head _))))).strAll HL3.out (by omega); have q4 := (hSw.blk (.tail _ (.tail _ (.tail _ (.tail _ (.head _)))))).strAll HQL.out (by omega); have q5 := (hSw.blk (.tail _ (.tail _ (.tail _ (.tail _ (.tail _ (.head _))))))).strAll HPL.out (by omega); clear hSw; go_simp)
            (try (with_reducible rfl))
          (try simp only [List.getElem_toArray, List.getElem_cons_zero, List.getElem_cons_succ, Act.put, List.setIfInBounds_toArray, List.set_cons_zero, List.set_cons_succ])
          refine' wpAnyH_take (i := 21) (v := _) rfl (by kernel_rfl) (by kernel_rfl) (by kernel_rfl) (fun _ _ _ h => h) (Or.inl ⟨by rfl, ?taq211⟩) (by assumption) ?tbq211
          case taq211 =>
            intro wS hSw
            (try dsimp only at hSw)
            (have q0 := (hSw.blk (.head _)).strAll HZL.out (by omega); have q1 := (hSw.blk (.tail _ (.head _))).strOwn (n := 32 + 32) HHL.out hcap5 hcm5; have q2 := (hSw.blk (.tail _ (.tail _ (.head _)))).strAll HQL.out (by omega); have q3 := (hSw.blk (.tail _ (.tail _ (.tail _ (.head _))))).strAll HL3.out (by omega); have q4 := (hSw.blk (.tail _ (.tail _ (.tail _ (.tail _ (.head _)))))).strAll HQL.out (by omega); have q5 := (hSw.blk (.tail _ (.tail _ (.tail _ (.tail _ (.tail _ (.head _))))))).strAll HPL.out (by omega); clear hSw; go_simp)
            (try (with_reducible rfl))
          (try simp only [List.getElem_toArray, List.getElem_cons_zero, List.getElem_cons_succ, Act.put, List.setIfInBounds_toArray, List.set_cons_zero, List.set_cons_succ])
          refine' wpAnyH_take (i := 22) (v := _) rfl (by kernel_rfl) (by kernel_rfl) (by kernel_rfl) (fun _ _ _ h => h) (Or.inl ⟨by rfl, ?taq212⟩) (by assumption) ?tbq212
          case taq212 =>
            intro wS hSw
            (try dsimp only at hSw)
            (have q0 := (hSw.blk (.head _)).strAll HZL.out (by omega); have q1 := (hSw.blk (.tail _ (.head _))).strOwn (n := 32 + 32) HHL.out hcap5 hcm5; have q2 := (hSw.blk (.tail _ (.tail _ (.head _)))).strAll HQL.out (by omega); have q3 := (hSw.blk (.tail _ (.tail _ (.tail _ (.head _))))).strAll HL3.out (by omega); have q4 := (hSw.blk (.tail _ (.tail _ (.tail _ (.tail _ (.head _)))))).strAll HQL.out (by omega); have q5 := (hSw.blk (.tail _ (.tail _ (.tail _ (.tail _ (.tail _ (.head _))))))).strAll HPL.out (by omega); clear hSw; go_simp)
            (try (with_reducible rfl))
          (try simp only [List.getElem_toArray, List.getElem_cons_zero, List.getElem_cons_succ, Act.put, List.setIfInBounds_toArray, List.set_cons_zero, List.set_cons_succ])
          refine' wpAnyH_take (i := 23) (v := _) rfl (by kernel_rfl) (by kernel_rfl) (by kernel_rfl) (fun _ _ _ h => h) (Or.inl ⟨by rfl, ?taq213⟩) (by assumption) ?tbq213
          case taq213 =>
            intro wS hSw
            (try dsimp only at hSw)
            (have q0 := (hSw.blk (.head _)).strAll HZL.out (by omega); have q1 := (hSw.blk (.tail _ (.head _))).strOwn (n := 32 + 32) HHL.out hcap5 hcm5; have q2 := (hSw.blk (.tail _ (.tail _ (.head _)))).strAll HQL.out (by omega); have q3 := (hSw.blk (.tail _ (.tail _ (.tail _ (.head _))))).strAll HL3.out (by omega); have q4 := (hSw.blk (.tail _ (.tail _ (.tail _ (.tail _ (.head _)))))).strAll HQL.out (by omega); have q5 := (hSw.blk (.tail _ (.tail _ (.tail _ (.tail _ (.tail _ (.head _))))))).strAll HPL.out (by omega); clear hSw; go_simp)
            (try (with_reducible rfl))
          (try simp only [List.getElem_toArray, List.getElem_cons_zero, List.getElem_cons_succ, Act.put, List.setIfInBounds_toArray, List.set_cons_zero, List.set_cons_succ])
          refine' wpAnyH_take (i := 24) (v := _) rfl (by kernel_rfl) (by kernel_rfl) (by kernel_rfl) (fun _ _ _ h => h) (Or.inl ⟨by rfl, ?taq214⟩) (by assumption) ?tbq214
          case taq214 =>
            intro wS hSw
            (try dsimp only at hSw)
            (have q0 := (hSw.blk (.head _)).strAll HZL.out (by omega); have q1 := (hSw.blk (.tail _ (.head _))).strOwn (n := 32 + 32) HHL.out hcap5 hcm5; have q2 := (hSw.blk (.tail _ (.tail _ (.head _)))).strAll HQL.out (by omega); have q3 := (hSw.blk (.tail _ (.tail _ (.tail _ (.head _))))).strAll HL3.out (by omega); have q4 := (hSw.blk (.tail _ (.tail _ (.tail _ (.tail _ (.head _)))))).strAll HQL.out (by omega); have q5 := (hSw.blk (.tail _ (.tail _ (.tail _ (.tail _ (.tail _ (.head _))))))).strAll HPL.out (by omega); clear hSw; go_simp)
            (try (with_reducible rfl))
          (try simp only [List.getElem_toArray, List.getElem_cons_zero, List.getElem_cons_succ, Act.put, List.setIfInBounds_toArray, List.set_cons_zero, List.set_cons_succ])
          refine' wpAnyH_take (i := 25) (v := _) rfl (by kernel_rfl) (by kernel_rfl) (by kernel_rfl) (fun _ _ _ h => h) (Or.inl ⟨by rfl, ?taq215⟩) (by assumption) ?tbq215
          case taq215 =>
            intro wS hSw
            (try dsimp only at hSw)
            (have q0 := (hSw.blk (.head _)).strAll HZL.out (by omega); have q1 := (hSw.blk (.tail _ (.head _))).strOwn (n := 32 + 32) HHL.out hcap5 hcm5; have q2 := (hSw.blk (.tail _ (.tail _ (.head _)))).strAll HQL.out (by omega); have q3 := (hSw.blk (.tail _ (.tail _ (.tail _ (.head _))))).strAll HL3.out (by omega); have q4 := (hSw.blk (.tail _ (.tail _ (.tail _ (.tail _ (.head _)))))).strAll HQL.out (by omega); have q5 := (hSw.blk (.tail _ (.tail _ (.tail _ (.tail _ (.tail _ (.head _))))))).strAll HPL.out (by omega); clear hSw; go_simp)
            (try (with_reducible rfl))
          (try simp only [List.getElem_toArray, List.getElem_cons_zero, List.getElem_cons_succ, Act.put, List.setIfInBounds_toArray, List.set_cons_zero, List.set_cons_succ])
          refine' wpAnyH_take (i := 26) (v := _) rfl (by kernel_rfl) (by kernel_rfl) (by kernel_rfl) (fun _ _ _ h => h) (Or.inl ⟨by rfl, ?taq216⟩) (by assumption) ?tbq216
          case taq216 =>
            intro wS hSw
            (try dsimp only at hSw)
            (have q0 := (hSw.blk (.head _)).strAll HZL.out (by omega); have q1 := (hSw.blk (.tail _ (.head _))).strOwn (n := 32 + 32) HHL.out hcap5 hcm5; have q2 := (hSw.blk (.tail _ (.tail _ (.head _)))).strAll HQL.out (by omega); have q3 := (hSw.blk (.tail _ (.tail _ (.tail _ (.head _))))).strAll HL3.out (by omega); have q4 := (hSw.blk (.tail _ (.tail _ (.tail _ (.tail _ (.head _)))))).strAll HQL.out (by omega); have q5 := (hSw.blk (.tail _ (.tail _ (.tail _ (.tail _ (.tail _ (.head _))))))).strAll HPL.out (by omega); clear hSw; go_simp)
            (try (with_reducible rfl))
          (try simp only [List.getElem_toArray, List.getElem_cons_zero, List.getElem_cons_succ, Act.put, List.setIfInBounds_toArray, List.set_cons_zero, List.set_cons_succ])
          refine' wpAnyH_take (i := 27) (v := _) rfl (by kernel_rfl) (by kernel_rfl) (by kernel_rfl) (fun _ _ _ h => h) (Or.inl ⟨by rfl, ?taq217⟩) (by assumption) ?tbq217
          case taq217 =>
            intro wS hSw
            (try dsimp only at hSw)
            (have q0 := (hSw.blk (.head _)).strAll HZL.out (by omega); have q1 := (hSw.blk (.tail _ (.head _))).strOwn (n := 32 + 32) HHL.out hcap5 hcm5; have q2 := (hSw.blk (.tail _ (.tail _ (.head _)))).strAll HQL.out (by omega); have q3 := (hSw.blk (.tail _ (.tail _ (.tail _ (.head _))))).strAll HL3.out (by omega); have q4 := (hSw.blk (.tail _ (.tail _ (.tail _ (.tail _ (.head _)))))).strAll HQL.out (by omega); have q5 := (hSw.blk (.tail _ (.tail _ (.tail _ (.tail _ (.tail _ (.head _))))))).strAll HPL.out (by omega); clear hSw; go_simp)
            (try (with_reducible rfl))
          (try simp only [List.getElem_toArray, List.getElem_cons_zero, List.getElem_cons_succ, Act.put, List.setIfInBounds_toArray, List.set_cons_zero, List.set_cons_succ])
          refine' wpAnyH_take (i := 28) (v := _) rfl (by kernel_rfl) (by kernel_rfl) (by kernel_rfl) (fun _ _ _ h => h) (Or.inl ⟨by rfl, ?taq218⟩) (by assumption) ?tbq218
          case taq218 =>
            intro wS hSw
            (try dsimp only at hSw)
            (have q0 := (hSw.blk (.head _)).strAll HZL.out (by omega); have q1 := (hSw.blk (.tail _ (.head _))).strOwn (n := 32 + 32) HHL.out hcap5 hcm5; have q2 := (hSw.blk (.tail _ (.tail _ (.head _)))).strAll HQL.out (by omega); have q3 := (hSw.blk (.tail _ (.tail _ (.tail _ (.head _))))).strAll HL3.out (by omega); have q4 := (hSw.blk (.tail _ (.tail _ (.tail _ (.tail _ (.head _)))))).strAll HQL.out (by omega); have q5 := (hSw.blk (.tail _ (.tail _ (.tail _ (.tail _ (.tail _ (.head _))))))).strAll HPL.out (by omega); clear hSw; go_simp)
            (try (with_reducible rfl))
          (try simp only [List.getElem_toArray, List.getElem_cons_zero, List.getElem_cons_succ, Act.put, List.setIfInBounds_toArray, List.set_cons_zero, List.set_cons_succ])
          refine' wpAnyH_take (i := 29) (v := _) rfl (by kernel_rfl) (by kernel_rfl) (by kernel_rfl) (fun _ _ _ h => h) (Or.inl ⟨by rfl, ?taq219⟩) (by assumption) ?tbq219
          case taq219 =>
            intro wS hSw
            (try dsimp only at hSw)
            (have q0 := (hSw.blk (.head _)).strAll HZL.out (by omega); have q1 := (hSw.blk (.tail _ (.head _))).strOwn (n := 32 + 32) HHL.out hcap5 hcm5; have q2 := (hSw.blk (.tail _ (.tail _ (.head _)))).strAll HQL.out (by omega); have q3 := (hSw.blk (.tail _ (.tail _ (.tail _ (.head _))))).strAll HL3.out (by omega); have q4 := (hSw.blk (.tail _ (.tail _ (.tail _ (.tail _ (.head _)))))).strAll HQL.out (by omega); have q5 := (hSw.blk (.tail _ (.tail _ (.tail _ (.tail _ (.tail _ (.head _))))))).strAll HPL.out (by omega); clear hSw; go_simp)
            (try (with_reducible rfl))
          (try simp only [List.getElem_toArray, List.getElem_cons_zero, List.getElem_cons_succ, Act.put, List.setIfInBounds_toArray, List.set_cons_zero, List.set_cons_succ])
          refine' wpAnyH_take (i := 30) (v := _) rfl (by kernel_rfl) (by kernel_rfl) (by kernel_rfl) (fun _ _ _ h => h) (Or.inl ⟨by rfl, ?taq220⟩) (by assumption) ?tbq220
          case taq220 =>
            intro wS hSw
            (try dsimp only at hSw)
            (have q0 := (hSw.blk (.head _)).strAll HZL.out (by omega); have q1 := (hSw.blk (.tail _ (.head _))).strOwn (n := 32 + 32) HHL.out hcap5 hcm5; have q2 := (hSw.blk (.tail _ (.tail _ (.head _)))).strAll HQL.out (by omega); have q3 := (hSw.blk (.tail _ (.tail _ (.tail _ (.head _))))).strAll HL3.out (by omega); have q4 := (hSw.blk (.tail _ (.tail _ (.tail _ (.tail _ (.head _)))))).strAll HQL.out (by omega); have q5 := (hSw.blk (.tail _ (.tail _ (.tail _ (.tail _ (.tail _ (.head _))))))).strAll HPL.out (by omega); clear hSw; go_simp)
            (try (with_reducible rfl))
          (try simp only [List.getElem_toArray, List.getElem_cons_zero, List.getElem_cons_succ, Act.put, List.setIfInBounds_toArray, List.set_cons_zero, List.set_cons_succ])
          refine' wpAnyH_take (i := 31) (v := _) rfl (by kernel_rfl) (by kernel_rfl) (by kernel_rfl) (fun _ _ _ h => h) (Or.inl ⟨by rfl, ?taq221⟩) (by assumption) ?tbq221
          case taq221 =>
            intro wS hSw
            (try dsimp only at hSw)
            (have q0 := (hSw.blk (.head _)).strAll HZL.out (by omega); have q1 := (hSw.blk (.tail _ (.head _))).strOwn (n := 32 + 32) HHL.out hcap5 hcm5; have q2 := (hSw.blk (.tail _ (.tail _ (.head _)))).strAll HQL.out (by omega); have q3 := (hSw.blk (.tail _ (.tail _ (.tail _ (.head _))))).strAll HL3.out (by omega); have q4 := (hSw.blk (.tail _ (.tail _ (.tail _ (.tail _ (.head _)))))).strAll HQL.out (by omega); have q5 := (hSw.blk (.tail _ (.tail _ (.tail _ (.tail _ (.tail _ (.head _))))))).strAll HPL.out (by omega); clear hSw; go_simp)
            (try (with_reducible rfl))
          (try simp only [List.getElem_toArray, List.getElem_cons_zero, List.getElem_cons_succ, Act.put, List.setIfInBounds_toArray, List.set_cons_zero, List.set_cons_succ])
          refine' wpAnyH_take (i := 32) (v := _) rfl (by kernel_rfl) (by kernel_rfl) (by kernel_rfl) (fun _ _ _ h => h) (Or.inl ⟨by rfl, ?taq222⟩) (by assumption) ?tbq222
          case taq222 =>
            intro wS hSw
            (try dsimp only at hSw)
            (have q0 := (hSw.blk (.head _)).strAll HZL.out (by omega); have q1 := (hSw.blk (.tail _ (.head _))).strOwn (n := 32 + 32) HHL.out hcap5 hcm5; have q2 := (hSw.blk (.tail _ (.tail _ (.head _)))).strAll HQL.out (by omega); have q3 := (hSw.blk (.tail _ (.tail _ (.tail _ (.head _))))).strAll HL3.out (by omega); have q4 := (hSw.blk (.tail _ (.tail _ (.tail _ (.tail _ (.head _)))))).strAll HQL.out (by omega); have q5 := (hSw.blk (.tail _ (.tail _ (.tail _ (.tail _ (.tail _ (.head _))))))).strAll HPL.out (by omega); clear hSw; go_simp)
            (try (with_reducible rfl))
          (try simp only [List.getElem_toArray, List.getElem_cons_zero, List.getElem_cons_succ, Act.put, List.setIfInBounds_toArray, List.set_cons_zero, List.set_cons_succ])
          refine' wpAnyH_take (i := 33) (v := _) rfl (by kernel_rfl) (by kernel_rfl) (by kernel_rfl) (fun _ _ _ h => h) (Or.inl ⟨by rfl, ?taq223⟩) (by assumption) ?tbq223
          case taq223 =>
            intro wS hSw
            (try dsimp only at hSw)
            (have q0 := (hSw.blk (.head _)).strAll HZL.out (by omega); have q1 := (hSw.blk (.tail _ (.head _))).strOwn (n := 32 + 32) HHL.out hcap5 hcm5; have q2 := (hSw.blk (.tail _ (.tail _ (.head _)))).strAll HQL.out (by omega); have q3 := (hSw.blk (.tail _ (.tail _ (.tail _ (.head _))))).strAll HL3.out (by omega); have q4 := (hSw.blk (.tail _ (.tail _ (.tail _ (.tail _ (.head _)))))).strAll HQL.out (by omega); have q5 := (hSw.blk (.tail _ (.tail _ (.tail _ (.tail _ (.tail _ (.head _))))))).strAll HPL.out (by omega); clear hSw; go_simp)
            (try (with_reducible rfl))
          (try simp only [List.getElem_toArray, List.getElem_cons_zero, List.getElem_cons_succ, Act.put, List.setIfInBounds_toArray, List.set_cons_zero, List.set_cons_succ])
          refine' wpAnyH_take (i := 34) (v := _) rfl (by kernel_rfl) (by kernel_rfl) (by kernel_rfl) (fun _ _ _ h => h) (Or.inl ⟨by rfl, ?taq224⟩) (by assumption) ?tbq224
          case taq224 =>
            intro wS hSw
            (try dsimp only at hSw)
            (have q0 := (hSw.blk (.head _)).strAll HZL.out (by omega); have q1 := (hSw.blk (.tail _ (.head _))).strOwn (n := 32 + 32) HHL.out hcap5 hcm5; have q2 := (hSw.blk (.tail _ (.tail _ (.head _)))).strAll HQL.out (by omega); have q3 := (hSw.blk (.tail _ (.tail _ (.tail _ (.head _))))).strAll HL3.out (by omega); have q4 := (hSw.blk (.tail _ (.tail _ (.tail _ (.tail _ (.head _)))))).strAll HQL.out (by omega); have q5 := (hSw.blk (.tail _ (.tail _ (.tail _ (.tail _ (.tail _ (.head _))))))).strAll HPL.out (by omega); clear hSw; go_simp)
            (try (with_reducible rfl))
          (try simp only [List.getElem_toArray, List.getElem_cons_zero, List.getElem_cons_succ, Act.put, List.setIfInBounds_toArray, List.set_cons_zero, List.set_cons_succ])
          refine' wpAnyH_take (i := 35) (v := _) rfl (by kernel_rfl) (by kernel_rfl) (by kernel_rfl) (fun _ _ _ h => h) (Or.inl ⟨by rfl, ?taq225⟩) (by assumption) ?tbq225
          case taq225 =>
            intro wS hSw
            (try dsimp only at hSw)
            (have q0 := (hSw.blk (.head _)).strAll HZL.out (by omega); have q1 := (hSw.blk (.tail _ (.head _))).strOwn (n := 32 + 32) HHL.out hcap5 hcm5; have q2 := (hSw.blk (.tail _ (.tail _ (.head _)))).strAll HQL.out (by omega); have q3 := (hSw.blk (.tail _ (.tail _ (.tail _ (.head _))))).strAll HL3.out (by omega); have q4 := (hSw.blk (.tail _ (.tail _ (.tail _ (.tail _ (.head _)))))).strAll HQL.out (by omega); have q5 := (hSw.blk (.tail _ (.tail _ (.tail _ (.tail _ (.tail _ (.head _))))))).strAll HPL.out (by omega); clear hSw; go_simp)
            (try (with_reducible rfl))
          (try simp only [List.getElem_toArray, List.getElem_cons_zero, List.getElem_cons_succ, Act.put, List.setIfInBounds_toArray, List.set_cons_zero, List.set_cons_succ])
          refine' wpAnyH_take (i := 36) (v := _) rfl (by kernel_rfl) (by kernel_rfl) (by kernel_rfl) (fun _ _ _ h => h) (Or.inl ⟨by rfl, ?taq226⟩) (by assumption) ?tbq226
          case taq226 =>
            intro wS hSw
            (try dsimp only at hSw)
            (have q0 := (hSw.blk (.head _)).strAll HZL.out (by omega); have q1 := (hSw.blk (.tail _ (.head _))).strOwn (n := 32 + 32) HHL.out hcap5 hcm5; have q2 := (hSw.blk (.tail _ (.tail _ (.head _)))).strAll HQL.out (by omega); have q3 := (hSw.blk (.tail _ (.tail _ (.tail _ (.head _))))).strAll HL3.out (by omega); have q4 := (hSw.blk (.tail _ (.tail _ (.tail _ (.tail _ (.head _)))))).strAll HQL.out (by omega); have q5 := (hSw.blk (.tail _ (.tail _ (.tail _ (.tail _ (.tail _ (.head _))))))).strAll HPL.out (by omega); clear hSw; go_simp)
            (try (with_reducible rfl))
          (try simp only [List.getElem_toArray, List.getElem_cons_zero, List.getElem_cons_succ, Act.put, List.setIfInBounds_toArray, List.set_cons_zero, List.set_cons_succ])
          refine' wpAnyH_take (i := 37) (v := _) rfl (by kernel_rfl) (by kernel_rfl) (by kernel_rfl) (fun _ _ _ h => h) (Or.inl ⟨by rfl, ?taq227⟩) (by assumption) ?tbq227
          case taq227 =>
            intro wS hSw
            (try dsimp only at hSw)
            (have q0 := (hSw.blk (.head _)).strAll HZL.out (by omega); have q1 := (hSw.blk (.tail _ (.head _))).strOwn (n := 32 + 32) HHL.out hcap5 hcm5; have q2 := (hSw.blk (.tail _ (.tail _ (.head _)))).strAll HQL.out (by omega); have q3 := (hSw.blk (.tail _ (.tail _ (.tail _ (.head _))))).strAll HL3.out (by omega); have q4 := (hSw.blk (.tail _ (.tail _ (.tail _ (.tail _ (.head _)))))).strAll HQL.out (by omega); have q5 := (hSw.blk (.tail _ (.tail _ (.tail _ (.tail _ (.tail _ (.head _))))))).strAll HPL.out (by omega); clear hSw; go_simp)
            (try (with_reducible rfl))
          (try simp only [List.getElem_toArray, List.getElem_cons_zero, List.getElem_cons_succ, Act.put, List.setIfInBounds_toArray, List.set_cons_zero, List.set_cons_succ])
          refine' wpAnyH_take (i := 38) (v := _) rfl (by kernel_rfl) (by kernel_rfl) (by kernel_rfl) (fun _ _ _ h => h) (Or.inl ⟨by rfl, ?taq228⟩) (by assumption) ?tbq228
          case taq228 =>
            intro wS hSw
            (try dsimp only at hSw)
            (have q0 := (hSw.blk (.head _)).strAll HZL.out (by omega); have q1 := (hSw.blk (.tail _ (.head _))).strOwn (n := 32 + 32) HHL.out hcap5 hcm5; have q2 := (hSw.blk (.tail _ (.tail _ (.head _)))).strAll HQL.out (by omega); have q3 := (hSw.blk (.tail _ (.tail _ (.tail _ (.head _))))).strAll HL3.out (by omega); have q4 := (hSw.blk (.tail _ (.tail _ (.tail _ (.tail _ (.head _)))))).strAll HQL.out (by omega); have q5 := (hSw.blk (.tail _ (.tail _ (.tail _ (.tail _ (.tail _ (.head _))))))).strAll HPL.out (by omega); clear hSw; go_simp)
            (try (with_reducible rfl))
          (try simp only [List.getElem_toArray, List.getElem_cons_zero, List.getElem_cons_succ, Act.put, List.setIfInBounds_toArray, List.set_cons_zero, List.set_cons_succ])
          refine' wpAnyH_take (i := 39) (v := _) rfl (by kernel_rfl) (by kernel_rfl) (by kernel_rfl) (fun _ _ _ h => h) (Or.inl ⟨by rfl, ?taq229⟩) (by assumption) ?tbq229
          case taq229 =>
            intro wS hSw
            (try dsimp only at hSw)
            (have q0 := (hSw.blk (.head _)).strAll HZL.out (by omega); have q1 := (hSw.blk (.tail _ (.head _))).strOwn (n := 32 + 32) HHL.out hcap5 hcm5; have q2 := (hSw.blk (.tail _ (.tail _ (.head _)))).strAll HQL.out (by omega); have q3 := (hSw.blk (.tail _ (.tail _ (.tail _ (.head _))))).strAll HL3.out (by omega); have q4 := (hSw.blk (.tail _ (.tail _ (.tail _ (.tail _ (.head _)))))).strAll HQL.out (by omega); have q5 := (hSw.blk (.tail _ (.tail _ (.tail _ (.tail _ (.tail _ (.head _))))))).strAll HPL.out (by omega); clear hSw; go_simp)
            (try (with_reducible rfl))
          (try simp only [List.getElem_toArray, List.getElem_cons_zero, List.getElem_cons_succ, Act.put, List.setIfInBounds_toArray, List.set_cons_zero, List.set_cons_succ])
          refine' wpAnyH_take (i := 40) (v := _) rfl (by kernel_rfl) (by kernel_rfl) (by kernel_rfl) (fun _ _ _ h => h) (Or.inl ⟨by rfl, ?taq230⟩) (by assumption) ?tbq230
          case taq230 =>
            intro wS hSw
            (try dsimp only at hSw)
            (have q0 := (hSw.blk (.head _)).strAll HZL.out (by omega); have q1 := (hSw.blk (.tail _ (.head _))).strOwn (n := 32 + 32) HHL.out hcap5 hcm5; have q2 := (hSw.blk (.tail _ (.tail _ (.head _)))).strAll HQL.out (by omega); have q3 := (hSw.blk (.tail _ (.tail _ (.tail _ (.head _))))).strAll HL3.out (by omega); have q4 := (hSw.blk (.tail _ (.tail _ (.tail _ (.tail _ (.head _)))))).strAll HQL.out (by omega); have q5 := (hSw.blk (.tail _ (.tail _ (.tail _ (.tail _ (.tail _ (.head _))))))).strAll HPL.out (by omega); clear hSw; go_simp)
            (try (with_reducible rfl))
          (try simp only [List.getElem_toArray, List.getElem_cons_zero, List.getElem_cons_succ, Act.put, List.setIfInBounds_toArray, List.set_cons_zero, List.set_cons_succ])
          refine wpAnyH_ready (rs := [41]) (by kernel_rfl) (by simp) ?_
          refine AllReadyH.cons rfl (fun K9 hK9 => ?_) AllReadyH.nil
          (try simp only [List.getElem_toArray, List.getElem_cons_zero, List.getElem_cons_succ])
          go_simp
          refine (ds_full D12.out.drew 0 0 rfl).mono ?_
          rw [HZ.out]
          rintro en we ⟨g7, rfl, h⟩
          have D13 := Lib.hid h
          have D13s := Lib.hid (h.sub (bs' := [(g6, 58, bytesV Z), (g5, 5, bytesV r ++ rest5), (g4, 58, bytesV Q), (g3, 58, bytesV r), (g2, 5, bytesV Q), (g1, 5, bytesV P)]) (fun b hb => .tail _ hb))
          have q7 := (h.blk (.head _)).strAll HZL.out (by omega)
          clear h
          refine hK9.out _ _ (D13s.out) (fun hHeld9 => ?_)
          clear hK9 K9
          (try simp only [List.getElem_toArray, List.getElem_cons_zero, List.getElem_cons_succ, Act.put, List.setIfInBounds_toArray, List.set_cons_zero, List.set_cons_succ])
          refine wpAnyH_ready (rs := [42]) (by kernel_rfl) (by simp) ?_
          refine AllReadyH.cons rfl (fun K9 hK9 => ?_) AllReadyH.nil
          (try simp only [List.getElem_toArray, List.getElem_cons_zero, List.getElem_cons_succ])
          go_simp
          refine hK9.out _ _ (D13s.out) (fun hHeld9 => ?_)
          clear hK9 K9
          (try simp only [List.getElem_toArray, List.getElem_cons_zero, List.getElem_cons_succ, Act.put, List.setIfInBounds_toArray, List.set_cons_zero, List.set_cons_succ])
          refine' wpAnyH_take (i := 43) (v := _) rfl (by kernel_rfl) (by kernel_rfl) (by kernel_rfl) (fun _ _ _ h => h) (Or.inl ⟨by rfl, ?taq231⟩) (by assumption) ?tbq231
          case taq231 =>
            intro wS hSw
            (try dsimp only at hSw)
            (have q0 := (hSw.blk (.head _)).strAll HZL.out (by omega); have q1 := (hSw.blk (.tail _ (.head _))).strOwn (n := 32 + 32) HHL.out hcap5 hcm5; have q2 := (hSw.blk (.tail _ (.tail _ (.head _)))).strAll HQL.out (by omega); have q3 := (hSw.blk (.tail _ (.tail _ (.tail _ (.head _))))).strAll HL3.out (by omega); have q4 := (hSw.blk (.tail _ (.tail _ (.tail _ (.tail _ (.head _)))))).strAll HQL.out (by omega); have q5 := (hSw.blk (.tail _ (.tail _ (.tail _ (.tail _ (.tail _ (.head _))))))).strAll HPL.out (by omega); clear hSw; go_simp)
            (try (with_reducible rfl))
          (try simp only [List.getElem_toArray, List.getElem_cons_zero, List.getElem_cons_succ, Act.put, List.setIfInBounds_toArray, List.set_cons_zero, List.set_cons_succ])
          refine' wpAnyH_take (i := 44) (v := _) rfl (by kernel_rfl) (by kernel_rfl) (by kernel_rfl) (fun _ _ _ h => h) (Or.inl ⟨by rfl, ?taq232⟩) (by assumption) ?tbq232
          case taq232 =>
            intro wS hSw
            (try dsimp only at hSw)
            (have q0 := (hSw.blk (.head _)).strAll HZL.out (by omega); have q1 := (hSw.blk (.tail _ (.head _))).strOwn (n := 32 + 32) HHL.out hcap5 hcm5; have q2 := (hSw.blk (.tail _ (.tail _ (.head _)))).strAll HQL.out (by omega); have q3 := (hSw.blk (.tail _ (.tail _ (.tail _ (.head _))))).strAll HL3.out (by omega); have q4 := (hSw.blk (.tail _ (.tail _ (.tail _ (.tail _ (.head _)))))).strAll HQL.out (by omega); have q5 := (hSw.blk (.tail _ (.tail _ (.tail _ (.tail _ (.tail _ (.head _))))))).strAll HPL.out (by omega); clear hSw; go_simp)
            (try (with_reducible rfl))
          (try simp only [List.getElem_toArray, List.getElem_cons_zero, List.getElem_cons_succ, Act.put, List.setIfInBounds_toArray, List.set_cons_zero, List.set_cons_succ])
          refine' wpAnyH_take (i := 45) (v := _) rfl (by kernel_rfl) (by kernel_rfl) (by kernel_rfl) (fun _ _ _ h => h) (Or.inl ⟨by rfl, ?taq233⟩) (by assumption) ?tbq233
          case taq233 =>
            intro wS hSw
            (try dsimp only at hSw)
            (have q0 := (hSw.blk (.head _)).strAll HZL.out (by omega); have q1 := (hSw.blk (.tail _ (.head _))).strOwn (n := 32 + 32) HHL.out hcap5 hcm5; have q2 := (hSw.blk (.tail _ (.tail _ (.head _)))).strAll HQL.out (by omega); have q3 := (hSw.blk (.tail _ (.tail _ (.tail _ (.head _))))).strAll HL3.out (by omega); have q4 := (hSw.blk (.tail _ (.tail _ (.tail _ (.tail _ (.head _)))))).strAll HQL.out (by omega); have q5 := (hSw.blk (.tail _ (.tail _ (.tail _ (.tail _ (.tail _ (.head _))))))).strAll HPL.out (by omega); clear hSw; go_simp)
            (try (with_reducible rfl))
          (try simp only [List.getElem_toArray, List.getElem_cons_zero, List.getElem_cons_succ, Act.put, List.setIfInBounds_toArray, List.set_cons_zero, List.set_cons_succ])
          refine wpAnyH_ready (rs := [46]) (by kernel_rfl) (by simp) ?_
          refine AllReadyH.cons rfl (fun K9 hK9 => ?_) AllReadyH.nil
          (try simp only [List.getElem_toArray, List.getElem_cons_zero, List.getElem_cons_succ])
          go_simp
          refine (awake5_any we).mono ?_
          rintro en wf ⟨rfl, hbf⟩
          have D14 := Lib.hid (D13s.out.below hbf)
          clear hbf
          refine hK9.out _ _ (D14.out) (fun hHeld9 => ?_)
          clear hK9 K9
          (try simp only [List.getElem_toArray, List.getElem_cons_zero, List.getElem_cons_succ, Act.put, List.setIfInBounds_toArray, List.set_cons_zero, List.set_cons_succ])
          refine' wpAnyH_take (i := 47) (v := _) rfl (by kernel_rfl) (by kernel_rfl) (by kernel_rfl) (fun _ _ _ h => h) (Or.inl ⟨by rfl, ?taq234⟩) (by assumption) ?tbq234
          case taq234 =>
            intro wS hSw
            (try dsimp only at hSw)
            (have q0 := (hSw.blk (.head _)).strAll HZL.out (by omega); have q1 := (hSw.blk (.tail _ (.head _))).strOwn (n := 32 + 32) HHL.out hcap5 hcm5; have q2 := (hSw.blk (.tail _ (.tail _ (.head _)))).strAll HQL.out (by omega); have q3 := (hSw.blk (.tail _ (.tail _ (.tail _ (.head _))))).strAll HL3.out (by omega); have q4 := (hSw.blk (.tail _ (.tail _ (.tail _ (.tail _ (.head _)))))).strAll HQL.out (by omega); have q5 := (hSw.blk (.tail _ (.tail _ (.tail _ (.tail _ (.tail _ (.head _))))))).strAll HPL.out (by omega); clear hSw; go_simp)
            (try (with_reducible rfl))
          (try simp only [List.getElem_toArray, List.getElem_cons_zero, List.getElem_cons_succ, Act.put, List.setIfInBounds_toArray, List.set_cons_zero, List.set_cons_succ])
          refine' wpAnyH_take (i := 48) (v := _) rfl (by kernel_rfl) (by kernel_rfl) (by kernel_rfl) (fun _ _ _ h => h) (Or.inl ⟨by rfl, ?taq235⟩) (by assumption) ?tbq235
          case taq235 =>
            intro wS hSw
            (try dsimp only at hSw)
            (have q0 := (hSw.blk (.head _)).strAll HZL.out (by omega); have q1 := (hSw.blk (.tail _ (.head _))).strOwn (n := 32 + 32) HHL.out hcap5 hcm5; have q2 := (hSw.blk (.tail _ (.tail _ (.head _)))).strAll HQL.out (by omega); have q3 := (hSw.blk (.tail _ (.tail _ (.tail _ (.head _))))).strAll HL3.out (by omega); have q4 := (hSw.blk (.tail _ (.tail _ (.tail _ (.tail _ (.head _)))))).strAll HQL.out (by omega); have q5 := (hSw.blk (.tail _ (.tail _ (.tail _ (.tail _ (.tail _ (.head _))))))).strAll HPL.out (by omega); clear hSw; go_simp)
            (try (with_reducible rfl))
          (try simp only [List.getElem_toArray, List.getElem_cons_zero, List.getElem_cons_succ, Act.put, List.setIfInBounds_toArray, List.set_cons_zero, List.set_cons_succ])
          refine wpAnyH_done (by kernel_rfl) ?_ _
          go_wp2
          go_ret
          exact ⟨rfl, D14.out.bel⟩
end Go.Proofs.Ytcgmgogkfhlgpaa
