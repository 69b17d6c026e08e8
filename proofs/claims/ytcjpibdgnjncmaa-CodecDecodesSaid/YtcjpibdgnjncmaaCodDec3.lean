/- Contract of codec.Decode. -/
import Derived.Test.YtcjpibdgnjncmaaCodDec3P
namespace Go.Proofs.Ytcjpibdgnjncmaa
open Go.RowKit
set_option linter.unusedVariables false
set_option linter.unusedSimpArgs false

def CutD (w0 : World) (q p : Nat) (z : CS) (sd sp : Int) (s : Value) (wx : World) : Prop := ∃ g A c, s = .pointer (some ⟨g, 0, none⟩) ∧ DG w0 wx q p g A c z sd sp (.slice none 0 0) []
theorem DG.fill {w0 w : World} {q p g : Nat} {A : Option Addr} {c : Nat} {z : CS} {sd sp : Int} {ps : List ParV} {u : Value} (h : DG w0 w q p g A c z sd sp u ps) (sd' sp' : Int) : DG w0 (three w g (.int .u64 sd') (.int .i64 sp') u) q p g A c z sd' sp' u ps := by
  obtain ⟨ho, hb⟩ := three_ok h.st (.int .u64 sd') (.int .i64 sp') u
  have hlo := h.lo
  have hap := h.ap
  exact ⟨h.cr.offA ho (Ne.symm hap.2) (Ne.symm hap.1) (fun h0 a ha => (h.lA.out h0 a ha).2.1), h.res.off ho (by show ¬ _ = _; omega), h.bel.trans (ho.below h.bel.size (fun i hi => by omega)), hlo, h.lA, hb, hap, own_off h.own ho (fun k hk e => h.vb.2.2.1 (by rw [hk, e])), h.vb, Lib.hid (fun x hx => (h.ins.out x hx).off ho (fun i hi _ hj => hi.2.2.2.1 hj) (fun i hi _ => hi))⟩
theorem DG.sete {w0 w : World} {q p g : Nat} {A : Option Addr} {c : Nat} {z : CS} {sd sp : Int} {ps : List ParV} {u : Value} (h : DG w0 w q p g A c z sd sp u ps) (e : Int) : DG w0 (w.setCell ⟨q, 1, none⟩ (.int .i64 e)) q p g A c ⟨e, z.s⟩ sd sp u ps :=
  h.step (h.cr.put e) ((Off.refl (fun i => i = p ∨ i = q) w).setCell (p := ⟨q, 1, none⟩) (.inl (.inr rfl)) _) (SameA.refl A) (Nat.le_refl _)
theorem decP_len (z : CS) : (decP z).z.s.1.length ≤ z.s.1.length := by
  have h6 : ∀ (r : List Int) (t : TD) (q : List Int) (z5 : CS) (b : Int), (decP6 r t q z5 b).z.s.1.length ≤ z5.s.1.length := fun r t q z5 b => by
    unfold decP6
    split
    · exact Nat.le_refl _
    · exact decT_len _ _
  have h5 : ∀ (r : List Int) (t : TD) (q : List Int) (z4 : CS), (decP5 r t q z4).z.s.1.length ≤ z4.s.1.length := fun r t q z4 => by
    unfold decP5
    split
    · exact Nat.le_refl _
    · exact Nat.le_trans (h6 _ _ _ _ _) (rds_len _ _)
  have h4 : ∀ (r : List Int) (t : TD), (decP4 r t).z.s.1.length ≤ t.z.s.1.length := fun r t => by
    unfold decP4
    split
    · exact Nat.le_refl _
    · exact Nat.le_trans (h5 _ _ _ _) (rdRun_len 4 num4 t.x.length ([], t.z.s)).2
  have h3 : ∀ (z2 : CS) (r : List Int), (decP3 z2 r).z.s.1.length ≤ z2.s.1.length := fun z2 r => by
    unfold decP3
    split
    · exact Nat.le_refl _
    · exact Nat.le_trans (h4 _ _) (decT_len _ _)
  have h2 : ∀ (z1 : CS) (n : Nat), (decP2 z1 n).z.s.1.length ≤ z1.s.1.length := fun z1 n => by
    unfold decP2
    split
    · exact Nat.le_refl _
    · exact Nat.le_trans (h3 _ _) (rdRun_len 2 num2 n ([], z1.s)).2
  exact Nat.le_trans (h2 _ _) (rds_len _ _)
theorem run_str_k {w : World} {B : Nat} {v : Value} {bs : List UInt8} (h : Reads w B v (bytesV bs)) : (convert 27 9 v).run Try.prog w = .ok (.string ⟨bs.toArray⟩) w :=
  run_string 27 9 5 Try.underlying27 Try.underlying5 Try.underlying9 h
set_option maxRecDepth 100000 in
set_option maxHeartbeats 6400000 in
theorem cdec_any (v : Value) (bs : List UInt8) (w : World) (B : Nat) (hB : B ≤ w.heap.size) (h : Reads w B v (bytesV bs)) (hl : bs.length ≤ 140737488351232) : Calls Try.prog 11 #[v] w (DecOf w bs) := by
  obtain ⟨A0, c0, rfl, _, _⟩ := h.form
  rw [length_bytesV] at h
  have HI := Lib.hid (newreader_any (w.alloc (.cells #[.int .u64 0, .int .i64 0, .slice none 0 0] 25)) B _ bs (h.alloc hB _) (by simp; omega) (by omega))
  clear h
  rw [length_bytesV]
  go_enter Try.func11, Try.ntmps11
  go_wp2_with fail
  have hk0 := Blk.fresh w 25 [.int .u64 0, .int .i64 0, .slice none 0 0]
  have hb0 := (Below.refl w.heap.size w).alloc (Nat.le_refl _) (.cells #[.int .u64 0, .int .i64 0, .slice none 0 0] 25)
  refine HI.out.mono ?_
  rintro en w1 ⟨p, A, c, rfl, hrd, hp, hA, hb1⟩
  have hsz := hb0.size
  have hp' : w.heap.size + 1 ≤ p := by simpa using hp
  have hlp := hrd.blk.lt
  have hbq := (Below.refl w1.heap.size w1).alloc (Nat.le_refl _) (.cells #[.pointer (some ⟨p, 0, none⟩), .int .i64 0] 55)
  have hbel := hb0.trans (hb1.mono hsz)
  have hsz1 := hb1.size
  have hal : ∀ a, A = some a → w.heap.size < a.block := fun a ha => by have := hA.out a ha; simp at this; omega
  have hH : DH w (w1.alloc (.cells #[.pointer (some ⟨p, 0, none⟩), .int .i64 0] 55)) w1.heap.size p A c ⟨0, (bs, 0)⟩ := by
    refine ⟨⟨Blk.fresh w1 55 [.pointer (some ⟨p, 0, none⟩), .int .i64 0], hrd.below hbq, by omega, Lib.hid (fun h0 a ha => ?_), hl⟩, (hk0.below hb1 hk0.lt).below hbq (by simp at hsz1; omega), hbel.trans (hbq.mono (by simp at hsz1; omega)), ⟨by simp at hsz1; omega, by omega⟩, Lib.hid (fun _ a ha => hal a ha)⟩
    obtain ⟨A9, n9, c9, e9, l9, _, _, at9⟩ := hrd.rd
    rw [length_bytesV] at l9
    injection e9 with e1 e2 e3
    obtain ⟨g, o, hA9, hg, _⟩ := at9.out (by dsimp only at h0; omega)
    rw [← e1, ha] at hA9
    injection hA9 with hA9
    subst hA9
    show g ≠ w1.heap.size
    omega
  have HH := Lib.hid hH
  have hq0 : w.heap.size < w1.heap.size := hH.lo.1
  clear hk0 hb0 hrd hA hb1 HI hp hH hal hbel hsz1 hbq hsz
  have hkq := Lib.hid HH.out.cr.blk
  have lq := hkq.out.lt
  have k0 := hkq.out.cell 0
  have k1 := hkq.out.cell 1
  simp only [List.getElem?_cons_zero, List.getElem?_cons_succ] at k0 k1
  go_upto_region 2 with fail
  clear k0 k1
  generalize (w1.alloc (.cells #[.pointer (some ⟨p, 0, none⟩), .int .i64 0] 55)) = w2 at HH hkq lq ⊢
  generalize w1.heap.size = q at HH hkq lq hq0 ⊢
  have k0 := hkq.out.cell 0
  have k1 := hkq.out.cell 1
  simp only [List.getElem?_cons_zero, List.getElem?_cons_succ] at k0 k1
  obtain ⟨out, hout⟩ : ∃ o, rdt (bs, 0) 4 = o := ⟨_, rfl⟩
  obtain ⟨s1, hs1⟩ : ∃ o, rds (bs, 0) 4 = o := ⟨_, rfl⟩
  have HT := Lib.hid (rraw_any w2 p A c bs 0 4 HH.out.cr.rd (by omega))
  rw [show takeOut bs 0 4 = out from hout, show takeLeft bs 0 4 = s1.1 by rw [← hs1]; rfl, show takeErr bs 0 4 = s1.2 by rw [← hs1]; rfl] at HT
  have l1 : s1.1.length ≤ bs.length := by rw [← hs1]; exact rds_len _ _
  have HO := Lib.hid hout
  have HS1 := Lib.hid hs1
  clear hout hs1 hkq
  go_wp2_with fail
  refine HT.out.mono ?_
  clear HT
  rintro en w3 ⟨A', c', A1, c1, rfl, hown, hrd, hA, ho⟩
  have HH1 := Lib.hid (HH.out.read (s' := s1) hrd hA ho l1)
  have kS := run_str_k (Reads.of_own hown)
  clear hrd hA ho HH k0 k1 hown lq
  obtain ⟨okb, hokb⟩ : ∃ okb, (out == beginB) = okb := ⟨_, rfl⟩
  have HOK := Lib.hid hokb
  have hokb2 : (out == [112, 100, 115, 116]) = okb := hokb
  clear hokb
  go_wp2_with fail
  (try rw [hokb2])
  clear hokb2 kS
  obtain ⟨z1, hz'⟩ : ∃ z', chk ⟨0, s1⟩ okb = z' := ⟨_, rfl⟩
  refine (check_any w3 q p A1 c1 ⟨0, s1⟩ okb HH1.out.cr z1 hz').mono ?_
  rintro en w4 ⟨rfl, hc6, ho6⟩
  have HH2 := Lib.hid (HH1.out.check hc6 ho6 (by rw [← hz']; rfl))
  have HZ1 := Lib.hid hz'
  have lz1 : z1.s.1.length ≤ 140737488351232 := by rw [← hz', chk_s]; dsimp only; omega
  clear hz' hc6 ho6 HH1
  obtain ⟨s2, hs2⟩ : ∃ o, rds z1.s 8 = o := ⟨_, rfl⟩
  obtain ⟨n2, hn2⟩ : ∃ o, deB (rdt z1.s 8) = o := ⟨_, rfl⟩
  have l2 : s2.1.length ≤ z1.s.1.length := by rw [← hs2]; exact rds_len _ _
  have b2 : n2 < 18446744073709551616 := by rw [← hn2]; exact deB_u64 _
  have HS2 := Lib.hid hs2
  have HN2 := Lib.hid hn2
  obtain ⟨s3, hs3⟩ : ∃ o, rds s2 4 = o := ⟨_, rfl⟩
  obtain ⟨n3, hn3⟩ : ∃ o, deB (rdt s2 4) = o := ⟨_, rfl⟩
  have l3 : s3.1.length ≤ s2.1.length := by rw [← hs3]; exact rds_len _ _
  have b3 : n3 < 4294967296 := by rw [← hn3]; exact deB_u32 _
  have HS3 := Lib.hid hs3
  have HN3 := Lib.hid hn3
  clear hs2 hn2 hs3 hn3
  have HT2 : Hid (∀ (W : World) (A : Option Addr) (c : Nat), Rd 84 W p A c z1.s.1 z1.s.2 → Calls Try.prog 26 #[.pointer (some ⟨p, 0, none⟩)] W (Read 84 W p A (.int .u64 (n2 : Int)) s2.1 s2.2)) := Lib.hid (fun W A c hr => by
    have h1 := ru64_any W p A c z1.s.1 z1.s.2 hr (by omega)
    rwa [show deB (takeOut z1.s.1 z1.s.2 8) = n2 from HN2.out, show takeLeft z1.s.1 z1.s.2 8 = s2.1 by rw [← HS2.out]; rfl, show takeErr z1.s.1 z1.s.2 8 = s2.2 by rw [← HS2.out]; rfl] at h1)
  have HT3 : Hid (∀ (W : World) (A : Option Addr) (c : Nat), Rd 84 W p A c s2.1 s2.2 → Calls Try.prog 27 #[.pointer (some ⟨p, 0, none⟩)] W (Read 84 W p A (.int .u32 (n3 : Int)) s3.1 s3.2)) := Lib.hid (fun W A c hr => by
    have h1 := ru32_any W p A c s2.1 s2.2 hr (by omega)
    rwa [show deB (takeOut s2.1 s2.2 4) = n3 from HN3.out, show takeLeft s2.1 s2.2 4 = s3.1 by rw [← HS3.out]; rfl, show takeErr s2.1 s2.2 4 = s3.2 by rw [← HS3.out]; rfl] at h1)
  go_upto_region 3 with fail
  go_cut [5] (fun s wx => CutD w q p ⟨z1.e, s3⟩ n2 n3 s wx)
  case first =>
    have hkq := Lib.hid HH2.out.cr.blk
    have lq := hkq.out.lt
    have k0 := hkq.out.cell 0
    simp only [List.getElem?_cons_zero, List.getElem?_cons_succ] at k0
    have e31 : IntKind.i64.wrap (n3 : Int) = (n3 : Int) := IntWalk.i64_in _ (by omega)
    have HHd := Lib.hid (HH2.out.below (Below.refl _ w4).drew)
    refine wp_region_held_drew (S := ((fun w' => w'.cell? ⟨q, 0, none⟩ = some (.pointer (some ⟨p, 0, none⟩))))) (by kernel_rfl) (k0) (fun hHeld => ?_)
    clear HH2 hkq lq
    generalize w4.drew = wd at HHd hHeld k0 ⊢
    refine' wpAnyH_take (i := 0) (v := _) rfl (by kernel_rfl) (by kernel_rfl) (by kernel_rfl) (fun _ _ _ h => h) (Or.inl ⟨by rfl, ?taq18⟩) (by assumption) ?tbq18
    case taq18 =>
      intro wS hSw
      (try dsimp only at hSw)
      go_simp
      (try (with_reducible rfl))
    (try simp only [List.getElem_toArray, List.getElem_cons_zero, List.getElem_cons_succ, Act.put, List.setIfInBounds_toArray, List.set_cons_zero, List.set_cons_succ])
    refine' wpAnyH_take (i := 1) (v := _) rfl (by kernel_rfl) (by kernel_rfl) (by kernel_rfl) (fun _ _ _ h => h) (Or.inl ⟨by rfl, ?taq19⟩) (by assumption) ?tbq19
    case taq19 =>
      intro wS hSw
      (try dsimp only at hSw)
      go_simp
      (try (with_reducible rfl))
    (try simp only [List.getElem_toArray, List.getElem_cons_zero, List.getElem_cons_succ, Act.put, List.setIfInBounds_toArray, List.set_cons_zero, List.set_cons_succ])
    refine' wpAnyH_take (i := 2) (v := _) rfl (by kernel_rfl) (by kernel_rfl) (by kernel_rfl) (fun _ _ _ h => h) (Or.inl ⟨by rfl, ?taq20⟩) (by assumption) ?tbq20
    case taq20 =>
      intro wS hSw
      (try dsimp only at hSw)
      go_simp
      (try (with_reducible rfl))
    (try simp only [List.getElem_toArray, List.getElem_cons_zero, List.getElem_cons_succ, Act.put, List.setIfInBounds_toArray, List.set_cons_zero, List.set_cons_succ])
    refine' wpAnyH_take (i := 3) (v := _) rfl (by kernel_rfl) (by kernel_rfl) (by kernel_rfl) (fun _ _ _ h => h) (Or.inl ⟨by rfl, ?taq21⟩) (by assumption) ?tbq21
    case taq21 =>
      intro wS hSw
      (try dsimp only at hSw)
      go_simp
      (try (with_reducible rfl))
    (try simp only [List.getElem_toArray, List.getElem_cons_zero, List.getElem_cons_succ, Act.put, List.setIfInBounds_toArray, List.set_cons_zero, List.set_cons_succ])
    refine' wpAnyH_take (i := 5) (v := _) rfl (by kernel_rfl) (by kernel_rfl) (by kernel_rfl) (fun _ _ _ h => h) (Or.inl ⟨by rfl, ?taq22⟩) (by assumption) ?tbq22
    case taq22 =>
      intro wS hSw
      (try dsimp only at hSw)
      go_simp
      (try (with_reducible rfl))
    (try simp only [List.getElem_toArray, List.getElem_cons_zero, List.getElem_cons_succ, Act.put, List.setIfInBounds_toArray, List.set_cons_zero, List.set_cons_succ])
    refine' wpAnyH_take (i := 6) (v := _) rfl (by kernel_rfl) (by kernel_rfl) (by kernel_rfl) (fun _ _ _ h => h) (Or.inl ⟨by rfl, ?taq23⟩) (by assumption) ?tbq23
    case taq23 =>
      intro wS hSw
      (try dsimp only at hSw)
      go_simp
      (try (with_reducible rfl))
    (try simp only [List.getElem_toArray, List.getElem_cons_zero, List.getElem_cons_succ, Act.put, List.setIfInBounds_toArray, List.set_cons_zero, List.set_cons_succ])
    refine' wpAnyH_take (i := 7) (v := _) rfl (by kernel_rfl) (by kernel_rfl) (by kernel_rfl) (fun _ _ _ h => h) (Or.inl ⟨by rfl, ?taq24⟩) (by assumption) ?tbq24
    case taq24 =>
      intro wS hSw
      (try dsimp only at hSw)
      go_simp
      (try (with_reducible rfl))
    (try simp only [List.getElem_toArray, List.getElem_cons_zero, List.getElem_cons_succ, Act.put, List.setIfInBounds_toArray, List.set_cons_zero, List.set_cons_succ])
    refine' wpAnyH_take (i := 8) (v := _) rfl (by kernel_rfl) (by kernel_rfl) (by kernel_rfl) (fun _ _ _ h => h) (Or.inl ⟨by rfl, ?taq25⟩) (by assumption) ?tbq25
    case taq25 =>
      intro wS hSw
      (try dsimp only at hSw)
      go_simp
      (try (with_reducible rfl))
    (try simp only [List.getElem_toArray, List.getElem_cons_zero, List.getElem_cons_succ, Act.put, List.setIfInBounds_toArray, List.set_cons_zero, List.set_cons_succ])
    refine wpAnyH_ready (rs := [4, 12]) (by kernel_rfl) (by simp) ?_
    refine AllReadyH.cons rfl (fun K9 hK9 => ?_) (AllReadyH.cons rfl (fun K9 hK9 => ?_) AllReadyH.nil)
    ·
      (try simp only [List.getElem_toArray, List.getElem_cons_zero, List.getElem_cons_succ])
      go_simp
      refine (HT2.out _ _ _ HHd.out.cr.rd).mono ?_
      rintro en w5 ⟨rfl, A5, c5, hrd, hA, ho⟩
      have H5 := Lib.hid (HHd.out.read (s' := s2) hrd hA ho l2)
      have k5 := H5.out.cr.blk.cell 0
      simp only [List.getElem?_cons_zero] at k5
      clear hrd hA ho
      refine hK9.out _ _ (k5) (fun hHeld9 => ?_)
      clear hK9 K9
      (try simp only [List.getElem_toArray, List.getElem_cons_zero, List.getElem_cons_succ, Act.put, List.setIfInBounds_toArray, List.set_cons_zero, List.set_cons_succ])
      refine wpAnyH_ready (rs := [9, 12]) (by kernel_rfl) (by simp) ?_
      refine AllReadyH.cons rfl (fun K9 hK9 => ?_) (AllReadyH.cons rfl (fun K9 hK9 => ?_) AllReadyH.nil)
      ·
        (try simp only [List.getElem_toArray, List.getElem_cons_zero, List.getElem_cons_succ])
        go_simp
        refine (HT3.out _ _ _ H5.out.cr.rd).mono ?_
        rintro en w6 ⟨rfl, A6, c6, hrd, hA, ho⟩
        have H6 := Lib.hid (H5.out.read (s' := s3) hrd hA ho l3)
        have k6 := H6.out.cr.blk.cell 0
        simp only [List.getElem?_cons_zero] at k6
        clear hrd hA ho
        refine hK9.out _ _ (k6) (fun hHeld9 => ?_)
        clear hK9 K9
        (try simp only [List.getElem_toArray, List.getElem_cons_zero, List.getElem_cons_succ, Act.put, List.setIfInBounds_toArray, List.set_cons_zero, List.set_cons_succ])
        refine' wpAnyH_take (i := 10) (v := _) rfl (by kernel_rfl) (by kernel_rfl) (by kernel_rfl) (fun _ _ _ h => h) (Or.inl ⟨by rfl, ?taq26⟩) (by assumption) ?tbq26
        case taq26 =>
          intro wS hSw
          (try dsimp only at hSw)
          go_simp
          (try (with_reducible rfl))
        (try simp only [List.getElem_toArray, List.getElem_cons_zero, List.getElem_cons_succ, Act.put, List.setIfInBounds_toArray, List.set_cons_zero, List.set_cons_succ])
        refine' wpAnyH_take (i := 11) (v := _) rfl (by kernel_rfl) (by kernel_rfl) (by kernel_rfl) (fun _ _ _ h => h) (Or.inl ⟨by rfl, ?taq27⟩) (by assumption) ?tbq27
        case taq27 =>
          intro wS hSw
          (try dsimp only at hSw)
          go_simp
          (try (with_reducible rfl))
        (try simp only [List.getElem_toArray, List.getElem_cons_zero, List.getElem_cons_succ, Act.put, List.setIfInBounds_toArray, List.set_cons_zero, List.set_cons_succ])
        refine wpAnyH_ready (rs := [12]) (by kernel_rfl) (by simp) ?_
        refine AllReadyH.cons rfl (fun K9 hK9 => ?_) AllReadyH.nil
        have H7 := Lib.hid (H6.out.start 0 0)
        have ka := H7.out.cr.blk.cell 0
        simp only [List.getElem?_cons_zero] at ka
        (try simp only [List.getElem_toArray, List.getElem_cons_zero, List.getElem_cons_succ])
        go_simp
        refine hK9.out _ _ (ka) (fun hHeld9 => ?_)
        clear hK9 K9
        (try simp only [List.getElem_toArray, List.getElem_cons_zero, List.getElem_cons_succ, Act.put, List.setIfInBounds_toArray, List.set_cons_zero, List.set_cons_succ])
        have f0 := H7.out.st.free 0
        have f1 := H7.out.st.free 1
        have f2 := H7.out.st.free 2
        have hst := Lib.hid H7.out.st
        have ls := hst.out.lt
        have m0 := hst.out.cell 0
        have m1 := hst.out.cell 1
        have m2 := hst.out.cell 2
        simp only [List.getElem?_cons_zero, List.getElem?_cons_succ] at m0 m1 m2
        have hfl := Lib.hid (H6.out.start n2 n3)
        have kf := hfl.out.cr.blk.cell 0
        simp only [List.getElem?_cons_zero] at kf
        (try unfold three at hfl kf)
        refine wpAnyH_ready (rs := [13]) (by kernel_rfl) (by simp) ?_
        refine AllReadyH.cons rfl (fun K9 hK9 => ?_) AllReadyH.nil
        (try simp only [List.getElem_toArray, List.getElem_cons_zero, List.getElem_cons_succ])
        go_simp
        refine hK9.out _ _ ((by first | exact kf | exact kf.drew)) (fun hHeld9 => ?_)
        clear hK9 K9
        (try simp only [List.getElem_toArray, List.getElem_cons_zero, List.getElem_cons_succ, Act.put, List.setIfInBounds_toArray, List.set_cons_zero, List.set_cons_succ])
        refine wpAnyH_done (by kernel_rfl) ?_ _
        clear f0 f1 f2 hst ls m0 m1 m2 e31
        go_wp2_with fail
        go_meet
        case rel => exact ⟨_, _, _, rfl, by first | exact hfl.out | exact hfl.out.drew⟩
      ·
        have H6 := Lib.hid (H5.out.start 0 0)
        have ka := H6.out.cr.blk.cell 0
        simp only [List.getElem?_cons_zero] at ka
        (try simp only [List.getElem_toArray, List.getElem_cons_zero, List.getElem_cons_succ])
        go_simp
        refine hK9.out _ _ (ka) (fun hHeld9 => ?_)
        clear hK9 K9
        (try simp only [List.getElem_toArray, List.getElem_cons_zero, List.getElem_cons_succ, Act.put, List.setIfInBounds_toArray, List.set_cons_zero, List.set_cons_succ])
        refine wpAnyH_ready (rs := [9]) (by kernel_rfl) (by simp) ?_
        refine AllReadyH.cons rfl (fun K9 hK9 => ?_) AllReadyH.nil
        (try simp only [List.getElem_toArray, List.getElem_cons_zero, List.getElem_cons_succ])
        go_simp
        refine (HT3.out _ _ _ H6.out.cr.rd).mono ?_
        rintro en w6 ⟨rfl, A6, c6, hrd, hA, ho⟩
        have H7 := Lib.hid (H6.out.read (s' := s3) hrd hA ho l3)
        have k6 := H7.out.cr.blk.cell 0
        simp only [List.getElem?_cons_zero] at k6
        clear hrd hA ho
        refine hK9.out _ _ (k6) (fun hHeld9 => ?_)
        clear hK9 K9
        (try simp only [List.getElem_toArray, List.getElem_cons_zero, List.getElem_cons_succ, Act.put, List.setIfInBounds_toArray, List.set_cons_zero, List.set_cons_succ])
        refine' wpAnyH_take (i := 10) (v := _) rfl (by kernel_rfl) (by kernel_rfl) (by kernel_rfl) (fun _ _ _ h => h) (Or.inl ⟨by rfl, ?taq28⟩) (by assumption) ?tbq28
        case taq28 =>
          intro wS hSw
          (try dsimp only at hSw)
          go_simp
          (try (with_reducible rfl))
        (try simp only [List.getElem_toArray, List.getElem_cons_zero, List.getElem_cons_succ, Act.put, List.setIfInBounds_toArray, List.set_cons_zero, List.set_cons_succ])
        refine' wpAnyH_take (i := 11) (v := _) rfl (by kernel_rfl) (by kernel_rfl) (by kernel_rfl) (fun _ _ _ h => h) (Or.inl ⟨by rfl, ?taq29⟩) (by assumption) ?tbq29
        case taq29 =>
          intro wS hSw
          (try dsimp only at hSw)
          go_simp
          (try (with_reducible rfl))
        (try simp only [List.getElem_toArray, List.getElem_cons_zero, List.getElem_cons_succ, Act.put, List.setIfInBounds_toArray, List.set_cons_zero, List.set_cons_succ])
        have f0 := H7.out.st.free 0
        have f1 := H7.out.st.free 1
        have f2 := H7.out.st.free 2
        have hst := Lib.hid H7.out.st
        have ls := hst.out.lt
        have m0 := hst.out.cell 0
        have m1 := hst.out.cell 1
        have m2 := hst.out.cell 2
        simp only [List.getElem?_cons_zero, List.getElem?_cons_succ] at m0 m1 m2
        have hfl := Lib.hid (H7.out.fill n2 n3)
        have kf := hfl.out.cr.blk.cell 0
        simp only [List.getElem?_cons_zero] at kf
        (try unfold three at hfl kf)
        refine wpAnyH_ready (rs := [13]) (by kernel_rfl) (by simp) ?_
        refine AllReadyH.cons rfl (fun K9 hK9 => ?_) AllReadyH.nil
        (try simp only [List.getElem_toArray, List.getElem_cons_zero, List.getElem_cons_succ])
        go_simp
        refine hK9.out _ _ ((by first | exact kf | exact kf.drew)) (fun hHeld9 => ?_)
        clear hK9 K9
        (try simp only [List.getElem_toArray, List.getElem_cons_zero, List.getElem_cons_succ, Act.put, List.setIfInBounds_toArray, List.set_cons_zero, List.set_cons_succ])
        refine wpAnyH_done (by kernel_rfl) ?_ _
        clear f0 f1 f2 hst ls m0 m1 m2 e31
        go_wp2_with fail
        go_meet
        case rel => exact ⟨_, _, _, rfl, by first | exact hfl.out | exact hfl.out.drew⟩
    ·
      have H5 := Lib.hid (HHd.out.start 0 0)
      have ka := H5.out.cr.blk.cell 0
      simp only [List.getElem?_cons_zero] at ka
      (try simp only [List.getElem_toArray, List.getElem_cons_zero, List.getElem_cons_succ])
      go_simp
      refine hK9.out _ _ (ka) (fun hHeld9 => ?_)
      clear hK9 K9
      (try simp only [List.getElem_toArray, List.getElem_cons_zero, List.getElem_cons_succ, Act.put, List.setIfInBounds_toArray, List.set_cons_zero, List.set_cons_succ])
      refine wpAnyH_ready (rs := [4]) (by kernel_rfl) (by simp) ?_
      refine AllReadyH.cons rfl (fun K9 hK9 => ?_) AllReadyH.nil
      (try simp only [List.getElem_toArray, List.getElem_cons_zero, List.getElem_cons_succ])
      go_simp
      refine (HT2.out _ _ _ H5.out.cr.rd).mono ?_
      rintro en w5 ⟨rfl, A5, c5, hrd, hA, ho⟩
      have H6 := Lib.hid (H5.out.read (s' := s2) hrd hA ho l2)
      have k5 := H6.out.cr.blk.cell 0
      simp only [List.getElem?_cons_zero] at k5
      clear hrd hA ho
      refine hK9.out _ _ (k5) (fun hHeld9 => ?_)
      clear hK9 K9
      (try simp only [List.getElem_toArray, List.getElem_cons_zero, List.getElem_cons_succ, Act.put, List.setIfInBounds_toArray, List.set_cons_zero, List.set_cons_succ])
      refine wpAnyH_ready (rs := [9]) (by kernel_rfl) (by simp) ?_
      refine AllReadyH.cons rfl (fun K9 hK9 => ?_) AllReadyH.nil
      (try simp only [List.getElem_toArray, List.getElem_cons_zero, List.getElem_cons_succ])
      go_simp
      refine (HT3.out _ _ _ H6.out.cr.rd).mono ?_
      rintro en w6 ⟨rfl, A6, c6, hrd, hA, ho⟩
      have H7 := Lib.hid (H6.out.read (s' := s3) hrd hA ho l3)
      have k6 := H7.out.cr.blk.cell 0
      simp only [List.getElem?_cons_zero] at k6
      clear hrd hA ho
      refine hK9.out _ _ (k6) (fun hHeld9 => ?_)
      clear hK9 K9
      (try simp only [List.getElem_toArray, List.getElem_cons_zero, List.getElem_cons_succ, Act.put, List.setIfInBounds_toArray, List.set_cons_zero, List.set_cons_succ])
      refine' wpAnyH_take (i := 10) (v := _) rfl (by kernel_rfl) (by kernel_rfl) (by kernel_rfl) (fun _ _ _ h => h) (Or.inl ⟨by rfl, ?taq30⟩) (by assumption) ?tbq30
      case taq30 =>
        intro wS hSw
        (try dsimp only at hSw)
        go_simp
        (try (with_reducible rfl))
      (try simp only [List.getElem_toArray, List.getElem_cons_zero, List.getElem_cons_succ, Act.put, List.setIfInBounds_toArray, List.set_cons_zero, List.set_cons_succ])
      refine' wpAnyH_take (i := 11) (v := _) rfl (by kernel_rfl) (by kernel_rfl) (by kernel_rfl) (fun _ _ _ h => h) (Or.inl ⟨by rfl, ?taq31⟩) (by assumption) ?tbq31
      case taq31 =>
        intro wS hSw
        (try dsimp only at hSw)
        go_simp
        (try (with_reducible rfl))
      (try simp only [List.getElem_toArray, List.getElem_cons_zero, List.getElem_cons_succ, Act.put, List.setIfInBounds_toArray, List.set_cons_zero, List.set_cons_succ])
      have f0 := H7.out.st.free 0
      have f1 := H7.out.st.free 1
      have f2 := H7.out.st.free 2
      have hst := Lib.hid H7.out.st
      have ls := hst.out.lt
      have m0 := hst.out.cell 0
      have m1 := hst.out.cell 1
      have m2 := hst.out.cell 2
      simp only [List.getElem?_cons_zero, List.getElem?_cons_succ] at m0 m1 m2
      have hfl := Lib.hid (H7.out.fill n2 n3)
      have kf := hfl.out.cr.blk.cell 0
      simp only [List.getElem?_cons_zero] at kf
      (try unfold three at hfl kf)
      refine wpAnyH_ready (rs := [13]) (by kernel_rfl) (by simp) ?_
      refine AllReadyH.cons rfl (fun K9 hK9 => ?_) AllReadyH.nil
      (try simp only [List.getElem_toArray, List.getElem_cons_zero, List.getElem_cons_succ])
      go_simp
      refine hK9.out _ _ ((by first | exact kf | exact kf.drew)) (fun hHeld9 => ?_)
      clear hK9 K9
      (try simp only [List.getElem_toArray, List.getElem_cons_zero, List.getElem_cons_succ, Act.put, List.setIfInBounds_toArray, List.set_cons_zero, List.set_cons_succ])
      refine wpAnyH_done (by kernel_rfl) ?_ _
      clear f0 f1 f2 hst ls m0 m1 m2 e31
      go_wp2_with fail
      go_meet
      case rel => exact ⟨_, _, _, rfl, by first | exact hfl.out | exact hfl.out.drew⟩
  case rest =>
    obtain ⟨g, A3, c3, rfl, hdg⟩ := hcut
    have HG := Lib.hid hdg
    have hkg := Lib.hid HG.out.st
    have lg := hkg.out.lt
    have m0 := hkg.out.cell 0
    have m1 := hkg.out.cell 1
    have m2 := hkg.out.cell 2
    simp only [List.getElem?_cons_zero, List.getElem?_cons_succ] at m0 m1 m2
    clear hdg HH2 HT2 HT3
    obtain ⟨ok3, hok3⟩ : ∃ ok3, decide (n3 ≤ 1000000) = ok3 := ⟨_, rfl⟩
    have hok3' : decide ((n3 : Int) ≤ 1000000) = ok3 := by rw [← hok3]; exact decide_eq_decide.2 (by omega)
    have HOK3 := Lib.hid hok3
    have HOK3' := Lib.hid hok3'
    clear hok3 hok3'
    go_wp2_with fail
    (try rw [HOK3.out])
    (try rw [HOK3'.out])
    obtain ⟨z3, hz'⟩ : ∃ z', chk ⟨z1.e, s3⟩ ok3 = z' := ⟨_, rfl⟩
    refine (check_any wc q p A3 c3 ⟨z1.e, s3⟩ ok3 HG.out.cr z3 hz').mono ?_
    rintro en w7 ⟨rfl, hc6, ho6⟩
    have HG2 := Lib.hid (HG.out.check hc6 ho6 (by rw [← hz']; rfl))
    have HZ3 := Lib.hid hz'
    have lz3 : z3.s.1.length ≤ 140737488351232 := by rw [← hz', chk_s]; dsimp only; omega
    clear hz' hc6 ho6 HG m0 m1 m2 hkg lg
    obtain ⟨s4, hs4⟩ : ∃ o, rds z3.s 1 = o := ⟨_, rfl⟩
    obtain ⟨n4, hn4⟩ : ∃ o, deB (rdt z3.s 1) = o := ⟨_, rfl⟩
    have l4 : s4.1.length ≤ z3.s.1.length := by rw [← hs4]; exact rds_len _ _
    have b4 : n4 < 256 := by rw [← hn4]; exact deB_u8 _
    have HS4 := Lib.hid hs4
    have HN4 := Lib.hid hn4
    have HT := Lib.hid (ru8_any w7 p A3 c3 z3.s.1 z3.s.2 HG2.out.cr.rd (by omega))
    rw [show deB (takeOut z3.s.1 z3.s.2 1) = n4 from hn4, show takeLeft z3.s.1 z3.s.2 1 = s4.1 by rw [← hs4]; rfl, show takeErr z3.s.1 z3.s.2 1 = s4.2 by rw [← hs4]; rfl] at HT
    have hkq := Lib.hid HG2.out.cr.blk
    have lq := hkq.out.lt
    have k0 := hkq.out.cell 0
    have k1 := hkq.out.cell 1
    simp only [List.getElem?_cons_zero, List.getElem?_cons_succ] at k0 k1
    clear hs4 hn4
    go_wp2_with fail
    refine HT.out.mono ?_
    rintro en w8 ⟨rfl, A4, c4, hrd, hA, ho⟩
    have HG3 := Lib.hid (HG2.out.read (s' := s4) hrd hA ho l4)
    clear hrd hA ho HT k0 k1 hkq lq HG2
    obtain ⟨ok4, hok4⟩ : ∃ ok4, decide (n4 ≤ 12) = ok4 := ⟨_, rfl⟩
    have hok4' : decide ((n4 : Int) ≤ 12) = ok4 := by rw [← hok4]; exact decide_eq_decide.2 (by omega)
    have HOK4 := Lib.hid hok4
    have HOK4' := Lib.hid hok4'
    clear hok4 hok4'
    go_wp2_with fail
    (try rw [HOK4.out])
    (try rw [HOK4'.out])
    obtain ⟨z4, hz'⟩ : ∃ z', chk ⟨z3.e, s4⟩ ok4 = z' := ⟨_, rfl⟩
    refine (check_any w8 q p A4 c4 ⟨z3.e, s4⟩ ok4 HG3.out.cr z4 hz').mono ?_
    rintro en w9 ⟨rfl, hc6, ho6⟩
    have HG4 := Lib.hid (HG3.out.check hc6 ho6 (by rw [← hz']; rfl))
    have HZ4 := Lib.hid hz'
    have lz4 : z4.s.1.length ≤ 140737488351232 := by rw [← hz', chk_s]; dsimp only; omega
    clear hz' hc6 ho6 HG3
    have HHD : Hid (decHead bs = ⟨z4, n2, n3, n4⟩) := Lib.hid (by
      unfold decHead
      dsimp only
      rw [HO.out, HS1.out, HOK.out, HZ1.out, HS2.out, HN2.out, HS3.out, HN3.out, HOK3.out, HZ3.out, HS4.out, HN4.out, HOK4.out, HZ4.out])
    obtain ⟨F, hF⟩ : ∃ F, decRun n4 ⟨z4, []⟩ = F := ⟨_, rfl⟩
    have HF : Hid (decFin bs = F) := Lib.hid (by unfold decFin; rw [HHD.out]; exact hF)
    have HF0 := Lib.hid hF
    clear hF
    go_wp2_with fail
    go_loopw [7] (fun i wr => ∃ (k : Nat) (Au : Option Addr) (cu : Nat) (A' : Option Addr) (c' : Nat) (ps : List ParV) (d : DSt), k ≤ n4 ∧ i = .int .i64 k ∧ Hid (DG w wr q p g A' c' d.z n2 n3 (.slice Au ps.length cu) ps ∧ decRun (n4 - k) d = F ∧ ps.length = k ∧ (d.z.e = 0 → ps.map (·.c) = d.ps))) (fun i _ => n4 - (intOf i).toNat)
    case atStart => exact ⟨0, none, 0, A4, c4, [], ⟨z4, []⟩, by omega, rfl, Lib.hid ⟨HG4.out, HF0.out, rfl, fun _ => rfl⟩⟩
    case round =>
      obtain ⟨k, Au, cu, A', c', ps, d, hk, rfl, HX⟩ := hrel
      clear HG4
      have hkq := Lib.hid HX.out.1.cr.blk
      have lq := hkq.out.lt
      have k0 := hkq.out.cell 0
      have k1 := hkq.out.cell 1
      simp only [List.getElem?_cons_zero, List.getElem?_cons_succ] at k0 k1
      have hkg := Lib.hid HX.out.1.st
      have lg := hkg.out.lt
      have m0 := hkg.out.cell 0
      have m1 := hkg.out.cell 1
      have m2 := hkg.out.cell 2
      simp only [List.getElem?_cons_zero, List.getElem?_cons_succ] at m0 m1 m2
      have hgf := hkg.out.free 2
      by_cases he : d.z.e = 0
      · by_cases hlt : k < n4
        · have t1 : (d.z.e == 0) = true := by simpa using he
          have t2 : decide ((k : Int) < (n4 : Int)) = true := decide_eq_true (by omega)
          have t2' : decide (k < n4) = true := decide_eq_true hlt
          have hdl := decP_len d.z
          obtain ⟨r, hr⟩ : ∃ r, decP d.z = r := ⟨_, rfl⟩
          rw [hr] at hdl
          have HN : Hid (decRun (n4 - (k + 1)) ⟨r.z, d.ps ++ [r.p]⟩ = F) := Lib.hid (by
            have h1 := HX.out.2.1
            rw [show n4 - k = (n4 - (k + 1)) + 1 by omega, decRun, if_pos he] at h1
            unfold decStep at h1
            rw [hr] at h1
            exact h1)
          have HRR := Lib.hid hr
          have HE := Lib.hid he
          have hps := HX.out.2.2.1
          have hpb : ps.length ≤ 256 := by omega
          have HPL := Lib.hid hps
          clear hr he hps hkq lq k0 k1 hkg lg m0 m1 m2 hgf
          have hkq := Lib.hid HX.out.1.cr.blk
          have lq := hkq.out.lt
          have k0 := hkq.out.cell 0
          have k1 := hkq.out.cell 1
          simp only [List.getElem?_cons_zero, List.getElem?_cons_succ] at k0 k1
          go_upto_region 10 with fail
          clear t1 t2 t2' hkq lq k0 k1
          have HD := Lib.hid HX.out.1.drew
          refine wp_region_held_drew (S := ((fun _ => True))) (by kernel_rfl) (trivial) (fun hHeld => ?_)
          generalize wr.drew = wd at HD hHeld ⊢
          have hst := Lib.hid HD.out.st
          have ls := hst.out.lt
          have m2 := hst.out.cell 2
          simp only [List.getElem?_cons_zero, List.getElem?_cons_succ] at m2
          refine' wpAnyH_take (i := 0) (v := _) rfl (by kernel_rfl) (by kernel_rfl) (by kernel_rfl) (fun _ _ _ h => h) (Or.inl ⟨by rfl, ?taq32⟩) (by assumption) ?tbq32
          case taq32 =>
            intro wS hSw
            (try dsimp only at hSw)
            go_simp
            (try (with_reducible rfl))
          (try simp only [List.getElem_toArray, List.getElem_cons_zero, List.getElem_cons_succ, Act.put, List.setIfInBounds_toArray, List.set_cons_zero, List.set_cons_succ])
          refine' wpAnyH_take (i := 2) (v := _) rfl (by kernel_rfl) (by kernel_rfl) (by kernel_rfl) (fun _ _ _ h => h) (Or.inl ⟨by rfl, ?taq33⟩) (by assumption) ?tbq33
          case taq33 =>
            intro wS hSw
            (try dsimp only at hSw)
            go_simp
            (try (with_reducible rfl))
          (try simp only [List.getElem_toArray, List.getElem_cons_zero, List.getElem_cons_succ, Act.put, List.setIfInBounds_toArray, List.set_cons_zero, List.set_cons_succ])
          refine wpAnyH_ready (rs := [1, 3]) (by kernel_rfl) (by simp) ?_
          refine AllReadyH.cons rfl (fun K9 hK9 => ?_) (AllReadyH.cons rfl (fun K9 hK9 => ?_) AllReadyH.nil)
          ·
            (try simp only [List.getElem_toArray, List.getElem_cons_zero, List.getElem_cons_succ])
            go_simp
            refine hK9.out _ _ (trivial) (fun hHeld9 => ?_)
            clear hK9 K9
            (try simp only [List.getElem_toArray, List.getElem_cons_zero, List.getElem_cons_succ, Act.put, List.setIfInBounds_toArray, List.set_cons_zero, List.set_cons_succ])
            refine wpAnyH_ready (rs := [3]) (by kernel_rfl) (by simp) ?_
            refine AllReadyH.cons rfl (fun K9 hK9 => ?_) AllReadyH.nil
            (try simp only [List.getElem_toArray, List.getElem_cons_zero, List.getElem_cons_succ])
            go_simp
            refine (rparam_any wd q p A' c' d.z HD.out.cr HE.out r HRR.out).mono ?_
            rintro en w5 ⟨A5, c5, pv, rfl, hin, hpc, hcr, hsa, ho⟩
            have HD5 := Lib.hid (HD.out.step hcr ho hsa hdl)
            have HIN := Lib.hid hin
            have HPC := Lib.hid hpc
            obtain ⟨B1, d1, e1⟩ := hin.wd.form
            obtain ⟨B2, d2, e2⟩ := hin.wx.form
            obtain ⟨B3, d3, e3⟩ := hin.m.form
            obtain ⟨B4, d4, e4⟩ := hin.bd.form
            obtain ⟨B5, d5, e5⟩ := hin.bx.form
            obtain ⟨pwd, pwx, pmv, pbd, pbx, pc⟩ := pv
            rw [length_ints] at e1 e2 e3 e4 e5
            dsimp only at e1 e2 e3 e4 e5 HPC
            subst e1 e2 e3 e4 e5
            clear hin hpc hcr hsa ho
            dsimp only
            have hst5 := Lib.hid HD5.out.st
            have ls5 := hst5.out.lt
            have n2 := hst5.out.cell 2
            simp only [List.getElem?_cons_zero, List.getElem?_cons_succ] at n2
            refine hK9.out _ _ (trivial) (fun hHeld9 => ?_)
            clear hK9 K9
            (try simp only [List.getElem_toArray, List.getElem_cons_zero, List.getElem_cons_succ, Act.put, List.setIfInBounds_toArray, List.set_cons_zero, List.set_cons_succ])
            refine wpAnyH_ready (rs := [4]) (by kernel_rfl) (by simp) ?_
            refine AllReadyH.cons rfl (fun K9 hK9 => ?_) AllReadyH.nil
            have hkb := (hst5.out.alloc (.cells #[.slice B1 pc.wd.length d1, .int .i64 pc.we, .slice B2 pc.wx.length d2, .slice B3 pc.m.length d3, .slice B4 pc.bd.length d4, .int .i64 pc.be, .slice B5 pc.bx.length d5] 43)).cell 2
            have lb : g < (w5.alloc (.cells #[.slice B1 pc.wd.length d1, .int .i64 pc.we, .slice B2 pc.wx.length d2, .slice B3 pc.m.length d3, .slice B4 pc.bd.length d4, .int .i64 pc.be, .slice B5 pc.bx.length d5] 43)).heap.size := by simp; omega
            simp only [List.getElem?_cons_zero, List.getElem?_cons_succ] at hkb
            (try simp only [List.getElem_toArray, List.getElem_cons_zero, List.getElem_cons_succ])
            go_simp
            refine hK9.out _ _ (trivial) (fun hHeld9 => ?_)
            clear hK9 K9
            (try simp only [List.getElem_toArray, List.getElem_cons_zero, List.getElem_cons_succ, Act.put, List.setIfInBounds_toArray, List.set_cons_zero, List.set_cons_succ])
            refine wpAnyH_ready (rs := [5]) (by kernel_rfl) (by simp) ?_
            refine AllReadyH.cons rfl (fun K9 hK9 => ?_) AllReadyH.nil
            (try simp only [List.getElem_toArray, List.getElem_cons_zero, List.getElem_cons_succ])
            rw [if_pos (by rfl)]
            refine wp_extendN elem_par (w5.alloc (.cells #[.slice B1 pc.wd.length d1, .int .i64 pc.we, .slice B2 pc.wx.length d2, .slice B3 pc.m.length d3, .slice B4 pc.bd.length d4, .int .i64 pc.be, .slice B5 pc.bx.length d5] 43)) _ _ (by rfl) w.heap.size ps.length _ _ (by rfl) (HD5.out.alloc (.cells #[.slice B1 pc.wd.length d1, .int .i64 pc.we, .slice B2 pc.wx.length d2, .slice B3 pc.m.length d3, .slice B4 pc.bd.length d4, .int .i64 pc.be, .slice B5 pc.bx.length d5] 43)).own _ 1 _ [.slice B1 pc.wd.length d1, .int .i64 pc.we, .slice B2 pc.wx.length d2, .slice B3 pc.m.length d3, .slice B4 pc.bd.length d4, .int .i64 pc.be, .slice B5 pc.bx.length d5] (by rfl) (by have h := (Blk.fresh w5 43 [.slice B1 pc.wd.length d1, .int .i64 pc.we, .slice B2 pc.wx.length d2, .slice B3 pc.m.length d3, .slice B4 pc.bd.length d4, .int .i64 pc.be, .slice B5 pc.bx.length d5]).readsN (sz := 7) (n := 1) rfl (by decide); exact h) rfl (by intro y hy; simp only [List.mem_cons, List.not_mem_nil, or_false] at hy; rcases hy with rfl | rfl | rfl | rfl | rfl | rfl | rfl <;> rfl) (by unfold maxLen; omega) (by omega) (by have := HD5.out.bel.size; simp only [World.size_alloc]; omega) ?_
            intro A9 c9 w9 hown9 hg9 hf9
            have hks := hst5.out.alloc (.cells #[.slice B1 pc.wd.length d1, .int .i64 pc.we, .slice B2 pc.wx.length d2, .slice B3 pc.m.length d3, .slice B4 pc.bd.length d4, .int .i64 pc.be, .slice B5 pc.bx.length d5] 43)
            have hk9 := hks.grown hg9 (fun e => HD5.out.vb.2.2.1 e.symm)
            have q9 := hk9.cell 2
            have f9 := hk9.free 2
            have l9 := hk9.lt
            simp only [List.getElem?_cons_zero, List.getElem?_cons_succ] at q9
            refine hK9.out _ _ (trivial) (fun hHeld9 => ?_)
            clear hK9 K9
            (try simp only [List.getElem_toArray, List.getElem_cons_zero, List.getElem_cons_succ, Act.put, List.setIfInBounds_toArray, List.set_cons_zero, List.set_cons_succ])
            refine' wpAnyH_take (i := 6) (v := _) rfl (by kernel_rfl) (by kernel_rfl) (by kernel_rfl) (fun _ _ _ h => h) (Or.inl ⟨by rfl, ?taq34⟩) (by assumption) ?tbq34
            case taq34 =>
              intro wS hSw
              (try dsimp only at hSw)
              go_simp
              (try (with_reducible rfl))
            (try simp only [List.getElem_toArray, List.getElem_cons_zero, List.getElem_cons_succ, Act.put, List.setIfInBounds_toArray, List.set_cons_zero, List.set_cons_succ])
            have hlo := HD5.out.lo
            have hcl := HD.out.cr.lt
            have HP := Lib.hid ((HD5.out.alloc (.cells #[.slice B1 pc.wd.length d1, .int .i64 pc.we, .slice B2 pc.wx.length d2, .slice B3 pc.m.length d3, .slice B4 pc.bd.length d4, .int .i64 pc.be, .slice B5 pc.bx.length d5] 43)).push (x := ⟨.slice B1 pc.wd.length d1, .slice B2 pc.wx.length d2, .slice B3 pc.m.length d3, .slice B4 pc.bd.length d4, .slice B5 pc.bx.length d5, pc⟩) (G := wd.heap.size) (HIN.out.off ((Off.refl (fun _ => False) w5).alloc (.cells #[.slice B1 pc.wd.length d1, .int .i64 pc.we, .slice B2 pc.wx.length d2, .slice B3 pc.m.length d3, .slice B4 pc.bd.length d4, .int .i64 pc.be, .slice B5 pc.bx.length d5] 43)) (fun _ _ _ h => h) (fun i hi _ => hi)) ⟨HD.out.res.lt, hcl.1, hcl.2, ls, fun k hk => (HD.out.own.lt k hk).2⟩ (by rw [List.length_append, List.flatMap_append]; exact hown9) hg9 hf9)
            refine wpAnyH_ready (rs := [7]) (by kernel_rfl) (by simp) ?_
            refine AllReadyH.cons rfl (fun K9 hK9 => ?_) AllReadyH.nil
            (try simp only [List.getElem_toArray, List.getElem_cons_zero, List.getElem_cons_succ])
            go_simp
            refine hK9.out _ _ (trivial) (fun hHeld9 => ?_)
            clear hK9 K9
            (try simp only [List.getElem_toArray, List.getElem_cons_zero, List.getElem_cons_succ, Act.put, List.setIfInBounds_toArray, List.set_cons_zero, List.set_cons_succ])
            refine wpAnyH_done (by kernel_rfl) ?_ _
            clear hown9 hg9 hf9 hks hk9 q9 f9 l9 hst5 ls5  hst ls m2 hkb lb
            go_wp2
            go_roundw
            case rel => exact ⟨k + 1, A9, c9, A5, c5, ps ++ [⟨.slice B1 pc.wd.length d1, .slice B2 pc.wx.length d2, .slice B3 pc.m.length d3, .slice B4 pc.bd.length d4, .slice B5 pc.bx.length d5, pc⟩], ⟨r.z, d.ps ++ [r.p]⟩, by omega, by go_num, Lib.hid ⟨by rw [List.length_append]; first | exact HP.out | exact HP.out.drew, HN.out, by rw [List.length_append, HPL.out]; rfl, fun h => by rw [List.map_append, HX.out.2.2.2 HE.out]; dsimp only at h ⊢; rw [← HPC.out h]; rfl⟩⟩
            case measure => simp [intOf]; omega
          ·
            (try simp only [List.getElem_toArray, List.getElem_cons_zero, List.getElem_cons_succ])
            go_simp
            refine (rparam_any wd q p A' c' d.z HD.out.cr HE.out r HRR.out).mono ?_
            rintro en w5 ⟨A5, c5, pv, rfl, hin, hpc, hcr, hsa, ho⟩
            have HD5 := Lib.hid (HD.out.step hcr ho hsa hdl)
            have HIN := Lib.hid hin
            have HPC := Lib.hid hpc
            obtain ⟨B1, d1, e1⟩ := hin.wd.form
            obtain ⟨B2, d2, e2⟩ := hin.wx.form
            obtain ⟨B3, d3, e3⟩ := hin.m.form
            obtain ⟨B4, d4, e4⟩ := hin.bd.form
            obtain ⟨B5, d5, e5⟩ := hin.bx.form
            obtain ⟨pwd, pwx, pmv, pbd, pbx, pc⟩ := pv
            rw [length_ints] at e1 e2 e3 e4 e5
            dsimp only at e1 e2 e3 e4 e5 HPC
            subst e1 e2 e3 e4 e5
            clear hin hpc hcr hsa ho
            dsimp only
            have hst5 := Lib.hid HD5.out.st
            have ls5 := hst5.out.lt
            have n2 := hst5.out.cell 2
            simp only [List.getElem?_cons_zero, List.getElem?_cons_succ] at n2
            refine hK9.out _ _ (trivial) (fun hHeld9 => ?_)
            clear hK9 K9
            (try simp only [List.getElem_toArray, List.getElem_cons_zero, List.getElem_cons_succ, Act.put, List.setIfInBounds_toArray, List.set_cons_zero, List.set_cons_succ])
            refine wpAnyH_ready (rs := [1, 4]) (by kernel_rfl) (by simp) ?_
            refine AllReadyH.cons rfl (fun K9 hK9 => ?_) (AllReadyH.cons rfl (fun K9 hK9 => ?_) AllReadyH.nil)
            ·
              (try simp only [List.getElem_toArray, List.getElem_cons_zero, List.getElem_cons_succ])
              go_simp
              refine hK9.out _ _ (trivial) (fun hHeld9 => ?_)
              clear hK9 K9
              (try simp only [List.getElem_toArray, List.getElem_cons_zero, List.getElem_cons_succ, Act.put, List.setIfInBounds_toArray, List.set_cons_zero, List.set_cons_succ])
              refine wpAnyH_ready (rs := [4]) (by kernel_rfl) (by simp) ?_
              refine AllReadyH.cons rfl (fun K9 hK9 => ?_) AllReadyH.nil
              have hkb := (hst5.out.alloc (.cells #[.slice B1 pc.wd.length d1, .int .i64 pc.we, .slice B2 pc.wx.length d2, .slice B3 pc.m.length d3, .slice B4 pc.bd.length d4, .int .i64 pc.be, .slice B5 pc.bx.length d5] 43)).cell 2
              have lb : g < (w5.alloc (.cells #[.slice B1 pc.wd.length d1, .int .i64 pc.we, .slice B2 pc.wx.length d2, .slice B3 pc.m.length d3, .slice B4 pc.bd.length d4, .int .i64 pc.be, .slice B5 pc.bx.length d5] 43)).heap.size := by simp; omega
              simp only [List.getElem?_cons_zero, List.getElem?_cons_succ] at hkb
              (try simp only [List.getElem_toArray, List.getElem_cons_zero, List.getElem_cons_succ])
              go_simp
              refine hK9.out _ _ (trivial) (fun hHeld9 => ?_)
              clear hK9 K9
              (try simp only [List.getElem_toArray, List.getElem_cons_zero, List.getElem_cons_succ, Act.put, List.setIfInBounds_toArray, List.set_cons_zero, List.set_cons_succ])
              refine wpAnyH_ready (rs := [5]) (by kernel_rfl) (by simp) ?_
              refine AllReadyH.cons rfl (fun K9 hK9 => ?_) AllReadyH.nil
              (try simp only [List.getElem_toArray, List.getElem_cons_zero, List.getElem_cons_succ])
              rw [if_pos (by rfl)]
              refine wp_extendN elem_par (w5.alloc (.cells #[.slice B1 pc.wd.length d1, .int .i64 pc.we, .slice B2 pc.wx.length d2, .slice B3 pc.m.length d3, .slice B4 pc.bd.length d4, .int .i64 pc.be, .slice B5 pc.bx.length d5] 43)) _ _ (by rfl) w.heap.size ps.length _ _ (by rfl) (HD5.out.alloc (.cells #[.slice B1 pc.wd.length d1, .int .i64 pc.we, .slice B2 pc.wx.length d2, .slice B3 pc.m.length d3, .slice B4 pc.bd.length d4, .int .i64 pc.be, .slice B5 pc.bx.length d5] 43)).own _ 1 _ [.slice B1 pc.wd.length d1, .int .i64 pc.we, .slice B2 pc.wx.length d2, .slice B3 pc.m.length d3, .slice B4 pc.bd.length d4, .int .i64 pc.be, .slice B5 pc.bx.length d5] (by rfl) (by have h := (Blk.fresh w5 43 [.slice B1 pc.wd.length d1, .int .i64 pc.we, .slice B2 pc.wx.length d2, .slice B3 pc.m.length d3, .slice B4 pc.bd.length d4, .int .i64 pc.be, .slice B5 pc.bx.length d5]).readsN (sz := 7) (n := 1) rfl (by decide); exact h) rfl (by intro y hy; simp only [List.mem_cons, List.not_mem_nil, or_false] at hy; rcases hy with rfl | rfl | rfl | rfl | rfl | rfl | rfl <;> rfl) (by unfold maxLen; omega) (by omega) (by have := HD5.out.bel.size; simp only [World.size_alloc]; omega) ?_
              intro A9 c9 w9 hown9 hg9 hf9
              have hks := hst5.out.alloc (.cells #[.slice B1 pc.wd.length d1, .int .i64 pc.we, .slice B2 pc.wx.length d2, .slice B3 pc.m.length d3, .slice B4 pc.bd.length d4, .int .i64 pc.be, .slice B5 pc.bx.length d5] 43)
              have hk9 := hks.grown hg9 (fun e => HD5.out.vb.2.2.1 e.symm)
              have q9 := hk9.cell 2
              have f9 := hk9.free 2
              have l9 := hk9.lt
              simp only [List.getElem?_cons_zero, List.getElem?_cons_succ] at q9
              refine hK9.out _ _ (trivial) (fun hHeld9 => ?_)
              clear hK9 K9
              (try simp only [List.getElem_toArray, List.getElem_cons_zero, List.getElem_cons_succ, Act.put, List.setIfInBounds_toArray, List.set_cons_zero, List.set_cons_succ])
              refine' wpAnyH_take (i := 6) (v := _) rfl (by kernel_rfl) (by kernel_rfl) (by kernel_rfl) (fun _ _ _ h => h) (Or.inl ⟨by rfl, ?taq35⟩) (by assumption) ?tbq35
              case taq35 =>
                intro wS hSw
                (try dsimp only at hSw)
                go_simp
                (try (with_reducible rfl))
              (try simp only [List.getElem_toArray, List.getElem_cons_zero, List.getElem_cons_succ, Act.put, List.setIfInBounds_toArray, List.set_cons_zero, List.set_cons_succ])
              have hlo := HD5.out.lo
              have hcl := HD.out.cr.lt
              have HP := Lib.hid ((HD5.out.alloc (.cells #[.slice B1 pc.wd.length d1, .int .i64 pc.we, .slice B2 pc.wx.length d2, .slice B3 pc.m.length d3, .slice B4 pc.bd.length d4, .int .i64 pc.be, .slice B5 pc.bx.length d5] 43)).push (x := ⟨.slice B1 pc.wd.length d1, .slice B2 pc.wx.length d2, .slice B3 pc.m.length d3, .slice B4 pc.bd.length d4, .slice B5 pc.bx.length d5, pc⟩) (G := wd.heap.size) (HIN.out.off ((Off.refl (fun _ => False) w5).alloc (.cells #[.slice B1 pc.wd.length d1, .int .i64 pc.we, .slice B2 pc.wx.length d2, .slice B3 pc.m.length d3, .slice B4 pc.bd.length d4, .int .i64 pc.be, .slice B5 pc.bx.length d5] 43)) (fun _ _ _ h => h) (fun i hi _ => hi)) ⟨HD.out.res.lt, hcl.1, hcl.2, ls, fun k hk => (HD.out.own.lt k hk).2⟩ (by rw [List.length_append, List.flatMap_append]; exact hown9) hg9 hf9)
              refine wpAnyH_ready (rs := [7]) (by kernel_rfl) (by simp) ?_
              refine AllReadyH.cons rfl (fun K9 hK9 => ?_) AllReadyH.nil
              (try simp only [List.getElem_toArray, List.getElem_cons_zero, List.getElem_cons_succ])
              go_simp
              refine hK9.out _ _ (trivial) (fun hHeld9 => ?_)
              clear hK9 K9
              (try simp only [List.getElem_toArray, List.getElem_cons_zero, List.getElem_cons_succ, Act.put, List.setIfInBounds_toArray, List.set_cons_zero, List.set_cons_succ])
              refine wpAnyH_done (by kernel_rfl) ?_ _
              clear hown9 hg9 hf9 hks hk9 q9 f9 l9 hst5 ls5  hst ls m2 hkb lb
              go_wp2
              go_roundw
              case rel => exact ⟨k + 1, A9, c9, A5, c5, ps ++ [⟨.slice B1 pc.wd.length d1, .slice B2 pc.wx.length d2, .slice B3 pc.m.length d3, .slice B4 pc.bd.length d4, .slice B5 pc.bx.length d5, pc⟩], ⟨r.z, d.ps ++ [r.p]⟩, by omega, by go_num, Lib.hid ⟨by rw [List.length_append]; first | exact HP.out | exact HP.out.drew, HN.out, by rw [List.length_append, HPL.out]; rfl, fun h => by rw [List.map_append, HX.out.2.2.2 HE.out]; dsimp only at h ⊢; rw [← HPC.out h]; rfl⟩⟩
              case measure => simp [intOf]; omega
            ·
              have hkb := (hst5.out.alloc (.cells #[.slice B1 pc.wd.length d1, .int .i64 pc.we, .slice B2 pc.wx.length d2, .slice B3 pc.m.length d3, .slice B4 pc.bd.length d4, .int .i64 pc.be, .slice B5 pc.bx.length d5] 43)).cell 2
              have lb : g < (w5.alloc (.cells #[.slice B1 pc.wd.length d1, .int .i64 pc.we, .slice B2 pc.wx.length d2, .slice B3 pc.m.length d3, .slice B4 pc.bd.length d4, .int .i64 pc.be, .slice B5 pc.bx.length d5] 43)).heap.size := by simp; omega
              simp only [List.getElem?_cons_zero, List.getElem?_cons_succ] at hkb
              (try simp only [List.getElem_toArray, List.getElem_cons_zero, List.getElem_cons_succ])
              go_simp
              refine hK9.out _ _ (trivial) (fun hHeld9 => ?_)
              clear hK9 K9
              (try simp only [List.getElem_toArray, List.getElem_cons_zero, List.getElem_cons_succ, Act.put, List.setIfInBounds_toArray, List.set_cons_zero, List.set_cons_succ])
              refine wpAnyH_ready (rs := [1]) (by kernel_rfl) (by simp) ?_
              refine AllReadyH.cons rfl (fun K9 hK9 => ?_) AllReadyH.nil
              (try simp only [List.getElem_toArray, List.getElem_cons_zero, List.getElem_cons_succ])
              go_simp
              refine hK9.out _ _ (trivial) (fun hHeld9 => ?_)
              clear hK9 K9
              (try simp only [List.getElem_toArray, List.getElem_cons_zero, List.getElem_cons_succ, Act.put, List.setIfInBounds_toArray, List.set_cons_zero, List.set_cons_succ])
              refine wpAnyH_ready (rs := [5]) (by kernel_rfl) (by simp) ?_
              refine AllReadyH.cons rfl (fun K9 hK9 => ?_) AllReadyH.nil
              (try simp only [List.getElem_toArray, List.getElem_cons_zero, List.getElem_cons_succ])
              rw [if_pos (by rfl)]
              refine wp_extendN elem_par (w5.alloc (.cells #[.slice B1 pc.wd.length d1, .int .i64 pc.we, .slice B2 pc.wx.length d2, .slice B3 pc.m.length d3, .slice B4 pc.bd.length d4, .int .i64 pc.be, .slice B5 pc.bx.length d5] 43)) _ _ (by rfl) w.heap.size ps.length _ _ (by rfl) (HD5.out.alloc (.cells #[.slice B1 pc.wd.length d1, .int .i64 pc.we, .slice B2 pc.wx.length d2, .slice B3 pc.m.length d3, .slice B4 pc.bd.length d4, .int .i64 pc.be, .slice B5 pc.bx.length d5] 43)).own _ 1 _ [.slice B1 pc.wd.length d1, .int .i64 pc.we, .slice B2 pc.wx.length d2, .slice B3 pc.m.length d3, .slice B4 pc.bd.length d4, .int .i64 pc.be, .slice B5 pc.bx.length d5] (by rfl) (by have h := (Blk.fresh w5 43 [.slice B1 pc.wd.length d1, .int .i64 pc.we, .slice B2 pc.wx.length d2, .slice B3 pc.m.length d3, .slice B4 pc.bd.length d4, .int .i64 pc.be, .slice B5 pc.bx.length d5]).readsN (sz := 7) (n := 1) rfl (by decide); exact h) rfl (by intro y hy; simp only [List.mem_cons, List.not_mem_nil, or_false] at hy; rcases hy with rfl | rfl | rfl | rfl | rfl | rfl | rfl <;> rfl) (by unfold maxLen; omega) (by omega) (by have := HD5.out.bel.size; simp only [World.size_alloc]; omega) ?_
              intro A9 c9 w9 hown9 hg9 hf9
              have hks := hst5.out.alloc (.cells #[.slice B1 pc.wd.length d1, .int .i64 pc.we, .slice B2 pc.wx.length d2, .slice B3 pc.m.length d3, .slice B4 pc.bd.length d4, .int .i64 pc.be, .slice B5 pc.bx.length d5] 43)
              have hk9 := hks.grown hg9 (fun e => HD5.out.vb.2.2.1 e.symm)
              have q9 := hk9.cell 2
              have f9 := hk9.free 2
              have l9 := hk9.lt
              simp only [List.getElem?_cons_zero, List.getElem?_cons_succ] at q9
              refine hK9.out _ _ (trivial) (fun hHeld9 => ?_)
              clear hK9 K9
              (try simp only [List.getElem_toArray, List.getElem_cons_zero, List.getElem_cons_succ, Act.put, List.setIfInBounds_toArray, List.set_cons_zero, List.set_cons_succ])
              refine' wpAnyH_take (i := 6) (v := _) rfl (by kernel_rfl) (by kernel_rfl) (by kernel_rfl) (fun _ _ _ h => h) (Or.inl ⟨by rfl, ?taq36⟩) (by assumption) ?tbq36
              case taq36 =>
                intro wS hSw
                (try dsimp only at hSw)
                go_simp
                (try (with_reducible rfl))
              (try simp only [List.getElem_toArray, List.getElem_cons_zero, List.getElem_cons_succ, Act.put, List.setIfInBounds_toArray, List.set_cons_zero, List.set_cons_succ])
              have hlo := HD5.out.lo
              have hcl := HD.out.cr.lt
              have HP := Lib.hid ((HD5.out.alloc (.cells #[.slice B1 pc.wd.length d1, .int .i64 pc.we, .slice B2 pc.wx.length d2, .slice B3 pc.m.length d3, .slice B4 pc.bd.length d4, .int .i64 pc.be, .slice B5 pc.bx.length d5] 43)).push (x := ⟨.slice B1 pc.wd.length d1, .slice B2 pc.wx.length d2, .slice B3 pc.m.length d3, .slice B4 pc.bd.length d4, .slice B5 pc.bx.length d5, pc⟩) (G := wd.heap.size) (HIN.out.off ((Off.refl (fun _ => False) w5).alloc (.cells #[.slice B1 pc.wd.length d1, .int .i64 pc.we, .slice B2 pc.wx.length d2, .slice B3 pc.m.length d3, .slice B4 pc.bd.length d4, .int .i64 pc.be, .slice B5 pc.bx.length d5] 43)) (fun _ _ _ h => h) (fun i hi _ => hi)) ⟨HD.out.res.lt, hcl.1, hcl.2, ls, fun k hk => (HD.out.own.lt k hk).2⟩ (by rw [List.length_append, List.flatMap_append]; exact hown9) hg9 hf9)
              refine wpAnyH_ready (rs := [7]) (by kernel_rfl) (by simp) ?_
              refine AllReadyH.cons rfl (fun K9 hK9 => ?_) AllReadyH.nil
              (try simp only [List.getElem_toArray, List.getElem_cons_zero, List.getElem_cons_succ])
              go_simp
              refine hK9.out _ _ (trivial) (fun hHeld9 => ?_)
              clear hK9 K9
              (try simp only [List.getElem_toArray, List.getElem_cons_zero, List.getElem_cons_succ, Act.put, List.setIfInBounds_toArray, List.set_cons_zero, List.set_cons_succ])
              refine wpAnyH_done (by kernel_rfl) ?_ _
              clear hown9 hg9 hf9 hks hk9 q9 f9 l9 hst5 ls5  hst ls m2 hkb lb
              go_wp2
              go_roundw
              case rel => exact ⟨k + 1, A9, c9, A5, c5, ps ++ [⟨.slice B1 pc.wd.length d1, .slice B2 pc.wx.length d2, .slice B3 pc.m.length d3, .slice B4 pc.bd.length d4, .slice B5 pc.bx.length d5, pc⟩], ⟨r.z, d.ps ++ [r.p]⟩, by omega, by go_num, Lib.hid ⟨by rw [List.length_append]; first | exact HP.out | exact HP.out.drew, HN.out, by rw [List.length_append, HPL.out]; rfl, fun h => by rw [List.map_append, HX.out.2.2.2 HE.out]; dsimp only at h ⊢; rw [← HPC.out h]; rfl⟩⟩
              case measure => simp [intOf]; omega
        · obtain rfl : k = n4 := by omega
          have HZF : Hid (decFin bs = d) := Lib.hid (by
            have h1 := HX.out.2.1
            rw [Nat.sub_self] at h1
            rw [HF.out, ← h1]
            rfl)
          have t1 : (d.z.e == 0) = true := by simpa using he
          have t2 : decide ((k : Int) < (k : Int)) = false := by simp
          have HDE0 := Lib.hid he
          obtain ⟨er, her⟩ : ∃ er, endErr d.z.s.1 d.z.s.2 = er := ⟨_, rfl⟩
          have HE := Lib.hid (end_any wr p A' c' d.z.s.1 d.z.s.2 HX.out.1.cr.rd)
          rw [her] at HE
          have HDE : Hid (decEnd d = er) := Lib.hid (by unfold decEnd; rw [if_pos he, her])
          have hfq := hkq.out.free 1
          clear her he hlt
          go_wp2_with fail
          refine HE.out.mono ?_
          rintro en wz ⟨rfl, hw⟩
          subst hw
          clear HE
          have HD2 := Lib.hid (HX.out.1.sete er)
          by_cases h4 : er = 0
          · have t4 : (er != 0) = false := by simp [h4]
            have HDEC : Hid (decode bs = (0, (n2 : Int), (n3 : Int), d.ps)) := Lib.hid (by unfold decode; rw [HZF.out, HDE.out, if_pos h4, HHD.out])
            have hkr := Lib.hid HD2.out.res
            unfold szcells at hkr
            have lr := hkr.out.lt
            have f0 := hkr.out.free 0
            have f1 := hkr.out.free 1
            have f2 := hkr.out.free 2
            have r0 := hkr.out.cell 0
            have r1 := hkr.out.cell 1
            have r2 := hkr.out.cell 2
            simp only [List.getElem?_cons_zero, List.getElem?_cons_succ] at r0 r1 r2
            have hkg2 := Lib.hid HD2.out.st
            have lg2 := hkg2.out.lt
            clear m0 m1 m2 hkg lg hgf
            have hgq := HD2.out.ap.2
            have hlo2 := HD2.out.lo
            have hrq : w.heap.size ≠ q := by omega
            have hrg : w.heap.size ≠ g := by omega
            subst h4
            have hcc := HX.out.2.2.2 HDE0.out
            have HCC := Lib.hid hcc
            clear hcc
            go_upto_region 15 with fail
            clear k0 k1 hfq
            generalize (wr.setCell ⟨q, 1, none⟩ (.int .i64 0)) = wy at HD2 hkr lr f0 f1 f2 r0 r1 r2 hkg2 lg2 ⊢
            have m0 := hkg2.out.cell 0
            have m1 := hkg2.out.cell 1
            have m2 := hkg2.out.cell 2
            simp only [List.getElem?_cons_zero, List.getElem?_cons_succ] at m0 m1 m2
            go_wp2_with fail
            have hres := three_ok hkr.out (.int .u64 n2) (.int .i64 n3) (.slice Au ps.length cu)
            unfold three at hres
            generalize (((wy.setCell ⟨w.heap.size, 0, none⟩ (.int .u64 n2)).setCell ⟨w.heap.size, 1, none⟩ (.int .i64 n3)).setCell ⟨w.heap.size, 2, none⟩ (.slice Au ps.length cu)) = W at hres ⊢
            obtain ⟨hqo, hqb⟩ := hres
            have hqb := Lib.hid hqb
            have p0 := hqb.out.cell 0
            have p1 := hqb.out.cell 1
            have p2 := hqb.out.cell 2
            simp only [List.getElem?_cons_zero, List.getElem?_cons_succ] at p0 p1 p2
            refine bodyPost_ret (v := .tuple #[.agg #[.int .u64 n2, .int .i64 n3, .slice Au ps.length cu], .int .i64 0]) ?_ rfl ?_
            · simp [results, Try.results11, asAddr, Result.andThen, p0, p1, p2, go_sem]
            · refine ⟨HD2.out.bel.trans (hqo.below HD2.out.bel.size (fun i hi => by omega)), ps, .slice Au ps.length cu, by rw [HDEC.out], ?_, ?_, own_off HD2.out.own hqo (fun k hk e => HD2.out.vb.2.2.2 (by rw [hk, e])), fun x hx => (HD2.out.ins.out x hx).off hqo (fun i hi _ => by show ¬ i = _; omega) (fun i hi _ => by omega)⟩
              · rw [HDEC.out]; intro _; exact HCC.out
              · rw [HDEC.out]; intro h; exact absurd rfl h
          · have t4 : (er != 0) = true := by simpa using h4
            have HNE := Lib.hid h4
            clear h4 m0 m1 m2 hkg lg hgf
            go_upto_region 14 with fail
            clear t4 k0 k1 hfq
            generalize (wr.setCell ⟨q, 1, none⟩ (.int .i64 er)) = wy at HD2 ⊢
            have HDEC : Hid (decode bs = (er, 0, 0, [])) := Lib.hid (by unfold decode; rw [HZF.out, HDE.out, if_neg HNE.out])
            have hkr := Lib.hid HD2.out.res
            unfold szcells at hkr
            have lr := hkr.out.lt
            have f0 := hkr.out.free 0
            have f1 := hkr.out.free 1
            have f2 := hkr.out.free 2
            have r0 := hkr.out.cell 0
            have r1 := hkr.out.cell 1
            have r2 := hkr.out.cell 2
            simp only [List.getElem?_cons_zero, List.getElem?_cons_succ] at r0 r1 r2
            have hrq : w.heap.size ≠ q := by have := HD2.out.lo; omega
            have hrq2 : w.heap.size < q := by have := HD2.out.lo; omega
            have hrq3 : q ≠ w.heap.size := by omega
            have hkq := Lib.hid HD2.out.cr.blk
            have lq := hkq.out.lt
            have k0 := hkq.out.cell 0
            have k1 := hkq.out.cell 1
            simp only [List.getElem?_cons_zero, List.getElem?_cons_succ] at k0 k1
            go_region
            clear r0 r1 r2 f0 f1 f2 lr lq k0 k1 hkq
            have hres := three_ok hkr.out (.int .u64 0) (.int .i64 0) (.slice none 0 0)
            unfold three at hres
            generalize (((wy.setCell ⟨w.heap.size, 0, none⟩ (.int .u64 0)).setCell ⟨w.heap.size, 1, none⟩ (.int .i64 0)).setCell ⟨w.heap.size, 2, none⟩ (.slice none 0 0)) = W at hres ⊢
            go_wp2_with fail
            obtain ⟨hqo, hqb⟩ := hres
            have hqb := Lib.hid hqb.drew
            have hqo := hqo.drew
            have p0 := hqb.out.cell 0
            have p1 := hqb.out.cell 1
            have p2 := hqb.out.cell 2
            simp only [List.getElem?_cons_zero, List.getElem?_cons_succ] at p0 p1 p2
            refine bodyPost_ret (v := .tuple #[.agg #[.int .u64 0, .int .i64 0, .slice none 0 0], .int .i64 er]) ?_ rfl ?_
            · simp [results, Try.results11, asAddr, Result.andThen, p0, p1, p2, go_sem]
            · refine ⟨HD2.out.bel.trans (hqo.below HD2.out.bel.size (fun i hi => by omega)), [], .slice none 0 0, by rw [HDEC.out], ?_, fun _ => rfl, World.ownsRow_nil _ _ _ _, fun e he => absurd he (by simp)⟩
              rw [HDEC.out]
              intro h
              exact absurd h HNE.out
      · have HZF : Hid (decFin bs = d) := Lib.hid (by
          have h1 := HX.out.2.1
          rw [decRun_ne he] at h1
          rw [HF.out, ← h1])
        have t1 : (d.z.e == 0) = false := by simpa using he
        have t4 : (d.z.e != 0) = true := by simpa using he
        have HNE := Lib.hid he
        have HDE : Hid (decEnd d = d.z.e) := Lib.hid (by unfold decEnd; rw [if_neg he])
        have HD2 := Lib.hid HX.out.1
        clear he m0 m1 m2 hkg lg hgf hkq
        have HDEC : Hid (decode bs = (d.z.e, 0, 0, [])) := Lib.hid (by unfold decode; rw [HZF.out, HDE.out, if_neg HNE.out])
        have hkr := Lib.hid HD2.out.res
        unfold szcells at hkr
        have lr := hkr.out.lt
        have f0 := hkr.out.free 0
        have f1 := hkr.out.free 1
        have f2 := hkr.out.free 2
        have r0 := hkr.out.cell 0
        have r1 := hkr.out.cell 1
        have r2 := hkr.out.cell 2
        simp only [List.getElem?_cons_zero, List.getElem?_cons_succ] at r0 r1 r2
        have hrq : w.heap.size ≠ q := by have := HD2.out.lo; omega
        have hrq2 : w.heap.size < q := by have := HD2.out.lo; omega
        have hrq3 : q ≠ w.heap.size := by omega
        go_upto_region 14 with fail
        have hkq := Lib.hid HD2.out.cr.blk
        have lq := hkq.out.lt
        clear k0 k1
        have k0 := hkq.out.cell 0
        have k1 := hkq.out.cell 1
        simp only [List.getElem?_cons_zero, List.getElem?_cons_succ] at k0 k1
        go_region
        clear r0 r1 r2 f0 f1 f2 lr lq k0 k1 hkq
        have hres := three_ok hkr.out (.int .u64 0) (.int .i64 0) (.slice none 0 0)
        unfold three at hres
        generalize (((wr.setCell ⟨w.heap.size, 0, none⟩ (.int .u64 0)).setCell ⟨w.heap.size, 1, none⟩ (.int .i64 0)).setCell ⟨w.heap.size, 2, none⟩ (.slice none 0 0)) = W at hres ⊢
        go_wp2_with fail
        obtain ⟨hqo, hqb⟩ := hres
        have hqb := Lib.hid hqb.drew
        have hqo := hqo.drew
        have p0 := hqb.out.cell 0
        have p1 := hqb.out.cell 1
        have p2 := hqb.out.cell 2
        simp only [List.getElem?_cons_zero, List.getElem?_cons_succ] at p0 p1 p2
        refine bodyPost_ret (v := .tuple #[.agg #[.int .u64 0, .int .i64 0, .slice none 0 0], .int .i64 d.z.e]) ?_ rfl ?_
        · simp [results, Try.results11, asAddr, Result.andThen, p0, p1, p2, go_sem]
        · refine ⟨HD2.out.bel.trans (hqo.below HD2.out.bel.size (fun i hi => by omega)), [], .slice none 0 0, by rw [HDEC.out], ?_, fun _ => rfl, World.ownsRow_nil _ _ _ _, fun e he => absurd he (by simp)⟩
          rw [HDEC.out]
          intro h
          exact absurd h HNE.out
end Go.Proofs.Ytcjpibdgnjncmaa
