/- Contract of pedagogueref18.DecodeData. -/
import Derived.Test.YtfhlailhcfjjaaaDataRDecP
import Derived.Test.YtfhlailhcfjjaaaDataDec
import Derived.Deep.DeepCutAuto
import Derived.Deep.RegionHeld3
import Derived.Deep.DrawnRows
import Derived.Outline
namespace Go.Proofs.Ytfhlailhcfjjaaa
open Go.RowKit
set_option linter.unusedVariables false
set_option linter.unusedSimpArgs false

theorem decOf_none {w w' : World} {bs : List UInt8} {e : Int} (hb : Below w.heap.size w w') (hd : decode bs = (e, noneD, [])) : DecOf w bs (.returned (.tuple #[.agg #[.int .i64 0, .int .i64 0, .int .i64 0, .int .i64 0, .int .i64 0, .slice none 0 0], .int .i64 e])) w' := by
  refine ⟨hb, [], .slice none 0 0, ?_, ?_, World.ownsRow_nil _ _ _ _, fun e he => absurd he (by simp)⟩
  · rw [hd]; rfl
  · rw [hd]; rfl
set_option maxRecDepth 100000 in
set_option maxHeartbeats 6400000 in
theorem rddec_any (v : Value) (bs : List UInt8) (w : World) (B : Nat) (hB : B ≤ w.heap.size) (h : Reads w B v (bytesV bs)) (hl : bs.length ≤ 1048576) : Calls Try.prog 20 #[v] w (DecOf w bs) := by
  obtain ⟨A0, c0, rfl, _, _⟩ := h.form
  rw [length_bytesV] at h ⊢
  have hk1 := Blk.fresh w 33 [.int .i64 0, .int .i64 0, .int .i64 0, .int .i64 0, .int .i64 0, .slice none 0 0]
  have hk1' := (hk1.alloc (.cells #[.int .i64 0, .int .i64 0, .int .i64 0, .int .i64 0, .int .i64 0, .slice none 0 0] 33)).alloc (.cells #[.slice A0 bs.length c0, .int .i64 0] 69)
  have hk2 := (Blk.fresh (w.alloc (.cells #[.int .i64 0, .int .i64 0, .int .i64 0, .int .i64 0, .int .i64 0, .slice none 0 0] 33)) 33 [.int .i64 0, .int .i64 0, .int .i64 0, .int .i64 0, .int .i64 0, .slice none 0 0]).alloc (.cells #[.slice A0 bs.length c0, .int .i64 0] 69)
  have hk3 := Blk.fresh ((w.alloc (.cells #[.int .i64 0, .int .i64 0, .int .i64 0, .int .i64 0, .int .i64 0, .slice none 0 0] 33)).alloc (.cells #[.int .i64 0, .int .i64 0, .int .i64 0, .int .i64 0, .int .i64 0, .slice none 0 0] 33)) 69 [.slice A0 bs.length c0, .int .i64 0]
  have hb3 := ((one_alloc w (.cells #[.int .i64 0, .int .i64 0, .int .i64 0, .int .i64 0, .int .i64 0, .slice none 0 0] 33)).alloc (by rw [World.size_alloc]; omega) (.cells #[.int .i64 0, .int .i64 0, .int .i64 0, .int .i64 0, .int .i64 0, .slice none 0 0] 33)).alloc (by rw [World.size_alloc, World.size_alloc]; omega) (.cells #[.slice A0 bs.length c0, .int .i64 0] 69)
  simp only [World.size_alloc] at hk2 hk3
  have hrd : Rd 69 (((w.alloc (.cells #[.int .i64 0, .int .i64 0, .int .i64 0, .int .i64 0, .int .i64 0, .slice none 0 0] 33)).alloc (.cells #[.int .i64 0, .int .i64 0, .int .i64 0, .int .i64 0, .int .i64 0, .slice none 0 0] 33)).alloc (.cells #[.slice A0 bs.length c0, .int .i64 0] 69)) (w.heap.size + 1 + 1) A0 c0 bs 0 := by
    refine ⟨hk3, (h.below (hb3.mono hB)).more (by rw [World.size_alloc, World.size_alloc, World.size_alloc]; omega), Lib.hid (fun h0 a ha => ?_)⟩
    obtain ⟨A, n, c, e, hl, _, _, hat⟩ := h
    injection e with e1 e2 e3
    subst e1 e2 e3
    rw [length_bytesV] at hl
    obtain ⟨g, o, e, hg, _⟩ := hat.out h0
    rw [ha] at e
    injection e with e
    subst e
    show g ≠ _
    omega
  have HH := Lib.hid (show DecQ w (((w.alloc (.cells #[.int .i64 0, .int .i64 0, .int .i64 0, .int .i64 0, .int .i64 0, .slice none 0 0] 33)).alloc (.cells #[.int .i64 0, .int .i64 0, .int .i64 0, .int .i64 0, .int .i64 0, .slice none 0 0] 33)).alloc (.cells #[.slice A0 bs.length c0, .int .i64 0] 69)) w.heap.size (w.heap.size + 1 + 1) A0 c0 (bs, 0) from ⟨hb3, hrd, hk1', ⟨Nat.le_refl _, by omega⟩, by omega⟩)
  have HN := Lib.hid (show DecQ w (((w.alloc (.cells #[.int .i64 0, .int .i64 0, .int .i64 0, .int .i64 0, .int .i64 0, .slice none 0 0] 33)).alloc (.cells #[.int .i64 0, .int .i64 0, .int .i64 0, .int .i64 0, .int .i64 0, .slice none 0 0] 33)).alloc (.cells #[.slice A0 bs.length c0, .int .i64 0] 69)) (w.heap.size + 1) (w.heap.size + 1 + 1) A0 c0 (bs, 0) from ⟨hb3, hrd, hk2, ⟨by omega, by omega⟩, by omega⟩)
  clear hk1 hk1' hk2 hk3 hb3 hrd h
  go_enter Try.func20, Try.ntmps20
  go_wp2_with fail
  generalize (((w.alloc (.cells #[.int .i64 0, .int .i64 0, .int .i64 0, .int .i64 0, .int .i64 0, .slice none 0 0] 33)).alloc (.cells #[.int .i64 0, .int .i64 0, .int .i64 0, .int .i64 0, .int .i64 0, .slice none 0 0] 33)).alloc (.cells #[.slice A0 bs.length c0, .int .i64 0] 69)) = w1 at HH HN ⊢
  obtain ⟨out, hout⟩ : ∃ o, rdt (bs, 0) 4 = o := ⟨_, rfl⟩
  obtain ⟨s1, hs1⟩ : ∃ o, rds (bs, 0) 4 = o := ⟨_, rfl⟩
  have HT := Lib.hid (rtake_any w1 (w.heap.size + 1 + 1) A0 c0 bs 0 4 (.inl rfl) HH.out.rd (by omega))
  rw [show takeOut bs 0 4 = out from hout, show takeLeft bs 0 4 = s1.1 by rw [← hs1]; rfl, show takeErr bs 0 4 = s1.2 by rw [← hs1]; rfl] at HT
  have l1 : s1.1.length ≤ 1048576 := by rw [← hs1]; exact Nat.le_trans (rds_len _ _) hl
  refine HT.out.mono ?_
  rintro en w2 ⟨A', c', A1, c1, rfl, hown, hrd, hA, ho⟩
  have HH1 := Lib.hid (HH.out.read (s' := s1) hrd ho)
  have HN1 := Lib.hid (HN.out.read (s' := s1) hrd ho)
  have kS := run_str_d (Reads.of_own hown)
  have HI1 : Hid (RdInv s1.1 s1.2) := Lib.hid (by rw [← hs1]; exact rds_inv (.inl rfl))
  have HO := Lib.hid hout
  have HS1 := Lib.hid hs1
  have e1 := HH1.out.rd.blk.cell 1
  have p1 := HH1.out.rd.blk.lt
  simp only [List.getElem?_cons_zero, List.getElem?_cons_succ] at e1
  clear hown hrd hA ho HT HH HN hout hs1
  by_cases h1 : s1.2 = 0
  case neg =>
    have t1 : (s1.2 != 0) = true := by simpa using h1
    have HDEC := Lib.hid (decode_short4 (bs := bs) (by rw [HS1.out]; exact h1))
    clear h1
    have hkr := HH1.out.res
    have hkn := HN1.out.res
    have hmr : w.heap.size < w2.heap.size := hkr.lt
    have hmn : w.heap.size + 1 < w2.heap.size := hkn.lt
    have m0 := hkr.cell 0
    have f0 := hkr.free 0
    have n0 := hkn.cell 0
    have m1 := hkr.cell 1
    have f1 := hkr.free 1
    have n1 := hkn.cell 1
    have m2 := hkr.cell 2
    have f2 := hkr.free 2
    have n2 := hkn.cell 2
    have m3 := hkr.cell 3
    have f3 := hkr.free 3
    have n3 := hkn.cell 3
    have m4 := hkr.cell 4
    have f4 := hkr.free 4
    have n4 := hkn.cell 4
    have m5 := hkr.cell 5
    have f5 := hkr.free 5
    have n5 := hkn.cell 5
    simp only [List.getElem?_cons_zero, List.getElem?_cons_succ] at m0 m1 m2 m3 m4 m5 n0 n1 n2 n3 n4 n5
    have HKR := Lib.hid hkr
    clear hkr hkn
    go_wp2_with fail
    have hq := six_ok HKR.out (.int .i64 0) (.int .i64 0) (.int .i64 0) (.int .i64 0) (.int .i64 0) (.slice none 0 0)
    unfold six at hq
    clear m0 m1 m2 m3 m4 m5 f0 f1 f2 f3 f4 f5 n0 n1 n2 n3 n4 n5 hmr hmn
    generalize ((((((w2.setCell ⟨w.heap.size, 0, none⟩ (.int .i64 0)).setCell ⟨w.heap.size, 1, none⟩ (.int .i64 0)).setCell ⟨w.heap.size, 2, none⟩ (.int .i64 0)).setCell ⟨w.heap.size, 3, none⟩ (.int .i64 0)).setCell ⟨w.heap.size, 4, none⟩ (.int .i64 0)).setCell ⟨w.heap.size, 5, none⟩ (.slice none 0 0)) = WF at hq ⊢
    obtain ⟨hqo, hqb⟩ := hq
    have n0 := hqb.cell 0
    have n1 := hqb.cell 1
    have n2 := hqb.cell 2
    have n3 := hqb.cell 3
    have n4 := hqb.cell 4
    have n5 := hqb.cell 5
    simp only [List.getElem?_cons_zero, List.getElem?_cons_succ] at n0 n1 n2 n3 n4 n5
    refine bodyPost_ret (v := .tuple #[.agg #[.int .i64 0, .int .i64 0, .int .i64 0, .int .i64 0, .int .i64 0, .slice none 0 0], .int .i64 4]) ?_ rfl ?_
    · simp [results, Try.results20, asAddr, Result.andThen, n0, n1, n2, n3, n4, n5, go_sem]
    · exact decOf_none (HH1.out.bel.trans (hqo.below HH1.out.bel.size (fun i hi => by omega))) HDEC.out
  have t1 : (s1.2 != 0) = false := by simpa using h1
  have Z1 := Lib.hid h1
  have HLO : Hid (out.length = 4) := Lib.hid (by
    have := (rd_inv (s := (bs, 0)) (n := 4) (by omega) (by rw [HS1.out]; exact h1)).2.1
    rw [HO.out] at this
    exact this)
  clear h1
  by_cases h2 : out = beginB
  case neg =>
    have t2 : (out == [112, 100, 100, 115]) = false := by simpa [beginB] using h2
    have t2' : (out != [112, 100, 100, 115]) = true := by simpa [beginB] using h2
    have HDEC : Hid (decode bs = (5, noneD, [])) := Lib.hid (by
      have hb : badBegin bs = true := by
        unfold badBegin
        rw [HO.out, HLO.out]
        simpa using h2
      unfold decode
      rw [hb, if_pos rfl]
      rfl)
    clear h2
    have hkr := HH1.out.res
    have hkn := HN1.out.res
    have hmr : w.heap.size < w2.heap.size := hkr.lt
    have hmn : w.heap.size + 1 < w2.heap.size := hkn.lt
    have m0 := hkr.cell 0
    have f0 := hkr.free 0
    have n0 := hkn.cell 0
    have m1 := hkr.cell 1
    have f1 := hkr.free 1
    have n1 := hkn.cell 1
    have m2 := hkr.cell 2
    have f2 := hkr.free 2
    have n2 := hkn.cell 2
    have m3 := hkr.cell 3
    have f3 := hkr.free 3
    have n3 := hkn.cell 3
    have m4 := hkr.cell 4
    have f4 := hkr.free 4
    have n4 := hkn.cell 4
    have m5 := hkr.cell 5
    have f5 := hkr.free 5
    have n5 := hkn.cell 5
    simp only [List.getElem?_cons_zero, List.getElem?_cons_succ] at m0 m1 m2 m3 m4 m5 n0 n1 n2 n3 n4 n5
    have HKR := Lib.hid hkr
    clear hkr hkn
    go_wp2_with fail
    have hq := six_ok HKR.out (.int .i64 0) (.int .i64 0) (.int .i64 0) (.int .i64 0) (.int .i64 0) (.slice none 0 0)
    unfold six at hq
    clear m0 m1 m2 m3 m4 m5 f0 f1 f2 f3 f4 f5 n0 n1 n2 n3 n4 n5 hmr hmn
    generalize ((((((w2.setCell ⟨w.heap.size, 0, none⟩ (.int .i64 0)).setCell ⟨w.heap.size, 1, none⟩ (.int .i64 0)).setCell ⟨w.heap.size, 2, none⟩ (.int .i64 0)).setCell ⟨w.heap.size, 3, none⟩ (.int .i64 0)).setCell ⟨w.heap.size, 4, none⟩ (.int .i64 0)).setCell ⟨w.heap.size, 5, none⟩ (.slice none 0 0)) = WF at hq ⊢
    obtain ⟨hqo, hqb⟩ := hq
    have n0 := hqb.cell 0
    have n1 := hqb.cell 1
    have n2 := hqb.cell 2
    have n3 := hqb.cell 3
    have n4 := hqb.cell 4
    have n5 := hqb.cell 5
    simp only [List.getElem?_cons_zero, List.getElem?_cons_succ] at n0 n1 n2 n3 n4 n5
    refine bodyPost_ret (v := .tuple #[.agg #[.int .i64 0, .int .i64 0, .int .i64 0, .int .i64 0, .int .i64 0, .slice none 0 0], .int .i64 5]) ?_ rfl ?_
    · simp [results, Try.results20, asAddr, Result.andThen, n0, n1, n2, n3, n4, n5, go_sem]
    · exact decOf_none (HH1.out.bel.trans (hqo.below HH1.out.bel.size (fun i hi => by omega))) HDEC.out
  have t2 : (out == [112, 100, 100, 115]) = true := by simpa [beginB] using h2
  have t2' : (out != [112, 100, 100, 115]) = false := by simpa [beginB] using h2
  have HBDF : Hid (badBegin bs = false) := Lib.hid (by
    unfold badBegin
    rw [HO.out, h2]
    simp)
  clear h2
  go_wp2_with fail
  clear t1 t2 t2' kS e1 p1
  obtain ⟨s2, hs⟩ : ∃ o, rds s1 1 = o := ⟨_, rfl⟩
  obtain ⟨n1, hn⟩ : ∃ o : Nat, deB (rdt s1 1) = o := ⟨_, rfl⟩
  have HT := Lib.hid (mu8_any w2 (w.heap.size + 1 + 1) A1 c1 s1.1 s1.2 HI1.out HH1.out.rd (by omega))
  rw [show deB (takeOut s1.1 s1.2 1) = n1 from hn, show takeLeft s1.1 s1.2 1 = s2.1 by rw [← hs]; rfl, show takeErr s1.1 s1.2 1 = s2.2 by rw [← hs]; rfl] at HT
  have l2 : s2.1.length ≤ 1048576 := by rw [← hs]; exact Nat.le_trans (rds_len _ _) l1
  have HI2 : Hid (RdInv s2.1 s2.2) := Lib.hid (by rw [← hs]; exact rds_inv HI1.out)
  have b1 : n1 < 256 := by rw [← hn]; exact deB_u8 _ _
  refine HT.out.mono ?_
  rintro en w3 ⟨rfl, A2, c2, hrd, hA, ho⟩
  have HH2 := Lib.hid (HH1.out.read (s' := s2) hrd ho)
  have HN2 := Lib.hid (HN1.out.read (s' := s2) hrd ho)
  have HM1 := Lib.hid hn
  have HS2 := Lib.hid hs
  clear hrd hA ho HT HH1 HN1 hn hs
  go_wp2_with fail
  obtain ⟨s3, hs⟩ : ∃ o, rds s2 1 = o := ⟨_, rfl⟩
  obtain ⟨n2, hn⟩ : ∃ o : Nat, deB (rdt s2 1) = o := ⟨_, rfl⟩
  have HT := Lib.hid (mu8_any w3 (w.heap.size + 1 + 1) A2 c2 s2.1 s2.2 HI2.out HH2.out.rd (by omega))
  rw [show deB (takeOut s2.1 s2.2 1) = n2 from hn, show takeLeft s2.1 s2.2 1 = s3.1 by rw [← hs]; rfl, show takeErr s2.1 s2.2 1 = s3.2 by rw [← hs]; rfl] at HT
  have l3 : s3.1.length ≤ 1048576 := by rw [← hs]; exact Nat.le_trans (rds_len _ _) l2
  have HI3 : Hid (RdInv s3.1 s3.2) := Lib.hid (by rw [← hs]; exact rds_inv HI2.out)
  have b2 : n2 < 256 := by rw [← hn]; exact deB_u8 _ _
  refine HT.out.mono ?_
  rintro en w4 ⟨rfl, A3, c3, hrd, hA, ho⟩
  have HH3 := Lib.hid (HH2.out.read (s' := s3) hrd ho)
  have HN3 := Lib.hid (HN2.out.read (s' := s3) hrd ho)
  have HM2 := Lib.hid hn
  have HS3 := Lib.hid hs
  clear hrd hA ho HT HH2 HN2 hn hs
  go_wp2_with fail
  obtain ⟨s4, hs⟩ : ∃ o, rds s3 1 = o := ⟨_, rfl⟩
  obtain ⟨n3, hn⟩ : ∃ o : Nat, deB (rdt s3 1) = o := ⟨_, rfl⟩
  have HT := Lib.hid (mu8_any w4 (w.heap.size + 1 + 1) A3 c3 s3.1 s3.2 HI3.out HH3.out.rd (by omega))
  rw [show deB (takeOut s3.1 s3.2 1) = n3 from hn, show takeLeft s3.1 s3.2 1 = s4.1 by rw [← hs]; rfl, show takeErr s3.1 s3.2 1 = s4.2 by rw [← hs]; rfl] at HT
  have l4 : s4.1.length ≤ 1048576 := by rw [← hs]; exact Nat.le_trans (rds_len _ _) l3
  have HI4 : Hid (RdInv s4.1 s4.2) := Lib.hid (by rw [← hs]; exact rds_inv HI3.out)
  have b3 : n3 < 256 := by rw [← hn]; exact deB_u8 _ _
  refine HT.out.mono ?_
  rintro en w5 ⟨rfl, A4, c4, hrd, hA, ho⟩
  have HH4 := Lib.hid (HH3.out.read (s' := s4) hrd ho)
  have HN4 := Lib.hid (HN3.out.read (s' := s4) hrd ho)
  have HM3 := Lib.hid hn
  have HS4 := Lib.hid hs
  clear hrd hA ho HT HH3 HN3 hn hs
  go_wp2_with fail
  obtain ⟨s5, hs⟩ : ∃ o, rds s4 1 = o := ⟨_, rfl⟩
  obtain ⟨n4, hn⟩ : ∃ o : Nat, deB (rdt s4 1) = o := ⟨_, rfl⟩
  have HT := Lib.hid (mu8_any w5 (w.heap.size + 1 + 1) A4 c4 s4.1 s4.2 HI4.out HH4.out.rd (by omega))
  rw [show deB (takeOut s4.1 s4.2 1) = n4 from hn, show takeLeft s4.1 s4.2 1 = s5.1 by rw [← hs]; rfl, show takeErr s4.1 s4.2 1 = s5.2 by rw [← hs]; rfl] at HT
  have l5 : s5.1.length ≤ 1048576 := by rw [← hs]; exact Nat.le_trans (rds_len _ _) l4
  have HI5 : Hid (RdInv s5.1 s5.2) := Lib.hid (by rw [← hs]; exact rds_inv HI4.out)
  have b4 : n4 < 256 := by rw [← hn]; exact deB_u8 _ _
  refine HT.out.mono ?_
  rintro en w6 ⟨rfl, A5, c5, hrd, hA, ho⟩
  have HH5 := Lib.hid (HH4.out.read (s' := s5) hrd ho)
  have HN5 := Lib.hid (HN4.out.read (s' := s5) hrd ho)
  have HM4 := Lib.hid hn
  have HS5 := Lib.hid hs
  clear hrd hA ho HT HH4 HN4 hn hs
  go_wp2_with fail
  obtain ⟨s6, hs⟩ : ∃ o, rds s5 1 = o := ⟨_, rfl⟩
  obtain ⟨n5, hn⟩ : ∃ o : Nat, deB (rdt s5 1) = o := ⟨_, rfl⟩
  have HT := Lib.hid (mu8_any w6 (w.heap.size + 1 + 1) A5 c5 s5.1 s5.2 HI5.out HH5.out.rd (by omega))
  rw [show deB (takeOut s5.1 s5.2 1) = n5 from hn, show takeLeft s5.1 s5.2 1 = s6.1 by rw [← hs]; rfl, show takeErr s5.1 s5.2 1 = s6.2 by rw [← hs]; rfl] at HT
  have l6 : s6.1.length ≤ 1048576 := by rw [← hs]; exact Nat.le_trans (rds_len _ _) l5
  have HI6 : Hid (RdInv s6.1 s6.2) := Lib.hid (by rw [← hs]; exact rds_inv HI5.out)
  have b5 : n5 < 256 := by rw [← hn]; exact deB_u8 _ _
  refine HT.out.mono ?_
  rintro en w7 ⟨rfl, A6, c6, hrd, hA, ho⟩
  have HH6 := Lib.hid (HH5.out.read (s' := s6) hrd ho)
  have HN6 := Lib.hid (HN5.out.read (s' := s6) hrd ho)
  have HM5 := Lib.hid hn
  have HS6 := Lib.hid hs
  clear hrd hA ho HT HH5 HN5 hn hs
  go_wp2_with fail
  have hx4 : wrap64 (IntKind.i8.wrap (n4 : Int)) = IntKind.i8.wrap (n4 : Int) := wrap64_i8 _
  rw [hx4]
  clear hx4
  obtain ⟨x4, hx⟩ : ∃ o, IntKind.i8.wrap (n4 : Int) = o := ⟨_, rfl⟩
  rw [hx]
  have HX := Lib.hid hx
  clear hx
  have HS := Lib.hid (HH6.out.start [.int .i64 n1, .int .i64 n2, .int .i64 n3, .int .i64 x4, .int .i64 n5] #[.int .i64 n1, .int .i64 n2, .int .i64 n3, .int .i64 x4, .int .i64 n5, .slice none 0 0] rfl)
  have HT6 := Lib.hid (HN6.out.start [.int .i64 n1, .int .i64 n2, .int .i64 n3, .int .i64 x4, .int .i64 n5] #[.int .i64 n1, .int .i64 n2, .int .i64 n3, .int .i64 x4, .int .i64 n5, .slice none 0 0] rfl)
  generalize (w7.alloc (.cells #[.int .i64 n1, .int .i64 n2, .int .i64 n3, .int .i64 x4, .int .i64 n5, .slice none 0 0] 33)) = w8 at HS HT6 ⊢
  generalize w7.heap.size = q at HS HT6 ⊢
  clear HH6 HN6
  obtain ⟨s7, hs⟩ : ∃ o, rds s6 2 = o := ⟨_, rfl⟩
  obtain ⟨n6, hn⟩ : ∃ o : Nat, deB (rdt s6 2) = o := ⟨_, rfl⟩
  have HT := Lib.hid (mu16_any w8 (w.heap.size + 1 + 1) A6 c6 s6.1 s6.2 HI6.out HS.out.rd (by omega))
  rw [show deB (takeOut s6.1 s6.2 2) = n6 from hn, show takeLeft s6.1 s6.2 2 = s7.1 by rw [← hs]; rfl, show takeErr s6.1 s6.2 2 = s7.2 by rw [← hs]; rfl] at HT
  have l7' : s7.1.length ≤ s6.1.length := by rw [← hs]; exact rds_len _ _
  have HI7 : Hid (RdInv s7.1 s7.2) := Lib.hid (by rw [← hs]; exact rds_inv HI6.out)
  have b6 : n6 < 65536 := by
    rw [← hn]
    exact deB_256 s6.1 s6.2 2
  refine HT.out.mono ?_
  rintro en w9 ⟨rfl, A7, c7, hrd, hA, ho⟩
  have HS' := Lib.hid (HS.out.read (s' := s7) hrd hA ho l7')
  have HT7 := Lib.hid (HT6.out.read (s' := s7) hrd hA ho l7')
  have HM6 := Lib.hid hn
  have HS7 := Lib.hid hs
  have l7 : s7.1.length ≤ 1048576 := by omega
  clear hrd hA ho HT HS HT6 hn hs l7'
  have HH : Hid (decHead bs = (⟨n1, n2, n3, x4, n5, .slice none 0 0, []⟩, (n6 : Int), s7)) := Lib.hid (by
    unfold decHead
    simp only [HS1.out, HM1.out, HS2.out, HM2.out, HS3.out, HM3.out, HS4.out, HM4.out, HS5.out, HM5.out, HS6.out, HM6.out, HS7.out, HX.out])
  clear HS1 HM1 HS2 HM2 HS3 HM3 HS4 HM4 HS5 HM5 HS6 HM6 HS7 HX HI1 HI2 HI3 HI4 HI5 HI6 l1 l2 l3 l4 l5 l6 b1 b2 b3 b4
  have e1 := HS'.out.rd.blk.cell 1
  have p1 := HS'.out.rd.blk.lt
  simp only [List.getElem?_cons_zero, List.getElem?_cons_succ] at e1
  by_cases h1 : s7.2 = 0
  case neg =>
    have t1 : (s7.2 != 0) = true := by simpa using h1
    have HDEC := Lib.hid (decode_head4 HBDF.out (by rw [HH.out]; exact h1) (by rw [HH.out]; exact HI7.out))
    clear h1
    have hkr := HS'.out.res
    have hkn := HT7.out.res
    have hmr : w.heap.size < w9.heap.size := hkr.lt
    have hmn : w.heap.size + 1 < w9.heap.size := hkn.lt
    have m0 := hkr.cell 0
    have f0 := hkr.free 0
    have n0 := hkn.cell 0
    have m1 := hkr.cell 1
    have f1 := hkr.free 1
    have n1 := hkn.cell 1
    have m2 := hkr.cell 2
    have f2 := hkr.free 2
    have n2 := hkn.cell 2
    have m3 := hkr.cell 3
    have f3 := hkr.free 3
    have n3 := hkn.cell 3
    have m4 := hkr.cell 4
    have f4 := hkr.free 4
    have n4 := hkn.cell 4
    have m5 := hkr.cell 5
    have f5 := hkr.free 5
    have n5 := hkn.cell 5
    simp only [List.getElem?_cons_zero, List.getElem?_cons_succ] at m0 m1 m2 m3 m4 m5 n0 n1 n2 n3 n4 n5
    have HKR := Lib.hid hkr
    clear hkr hkn
    go_wp2_with fail
    have hq := six_ok HKR.out (.int .i64 0) (.int .i64 0) (.int .i64 0) (.int .i64 0) (.int .i64 0) (.slice none 0 0)
    unfold six at hq
    clear m0 m1 m2 m3 m4 m5 f0 f1 f2 f3 f4 f5 n0 n1 n2 n3 n4 n5 hmr hmn
    generalize ((((((w9.setCell ⟨w.heap.size, 0, none⟩ (.int .i64 0)).setCell ⟨w.heap.size, 1, none⟩ (.int .i64 0)).setCell ⟨w.heap.size, 2, none⟩ (.int .i64 0)).setCell ⟨w.heap.size, 3, none⟩ (.int .i64 0)).setCell ⟨w.heap.size, 4, none⟩ (.int .i64 0)).setCell ⟨w.heap.size, 5, none⟩ (.slice none 0 0)) = WF at hq ⊢
    obtain ⟨hqo, hqb⟩ := hq
    have n0 := hqb.cell 0
    have n1 := hqb.cell 1
    have n2 := hqb.cell 2
    have n3 := hqb.cell 3
    have n4 := hqb.cell 4
    have n5 := hqb.cell 5
    simp only [List.getElem?_cons_zero, List.getElem?_cons_succ] at n0 n1 n2 n3 n4 n5
    refine bodyPost_ret (v := .tuple #[.agg #[.int .i64 0, .int .i64 0, .int .i64 0, .int .i64 0, .int .i64 0, .slice none 0 0], .int .i64 4]) ?_ rfl ?_
    · simp [results, Try.results20, asAddr, Result.andThen, n0, n1, n2, n3, n4, n5, go_sem]
    · exact decOf_none (HS'.out.bel.trans (hqo.below HS'.out.bel.size (fun i hi => by omega))) HDEC.out
  have t1 : (s7.2 != 0) = false := by simpa using h1
  have Z7 := Lib.hid h1
  clear h1
  obtain ⟨r, hr⟩ : ∃ o, headI ⟨n1, n2, n3, x4, n5, .slice none 0 0, []⟩ n6 = o := ⟨_, rfl⟩
  have HHD := Lib.hid (rhead_any n1 n2 n3 x4 n5 none 0 0 [] n6 r hr w9)
  have HR := Lib.hid hr
  have hkq := HS'.out.blk
  have hq9 : q < w9.heap.size := hkq.lt
  have m0 := hkq.cell 0
  have m1 := hkq.cell 1
  have m2 := hkq.cell 2
  have m3 := hkq.cell 3
  have m4 := hkq.cell 4
  have m5 := hkq.cell 5
  simp only [List.cons_append, List.nil_append, List.getElem?_cons_zero, List.getElem?_cons_succ] at m0 m1 m2 m3 m4 m5
  clear hkq hr
  go_wp2_with fail
  refine HHD.out.mono ?_
  rintro en w10 ⟨rfl, hb⟩
  have HS2 := Lib.hid (HS'.out.below hb)
  have HT2 := Lib.hid (HT7.out.below hb)
  clear hb HHD m0 m1 m2 m3 m4 m5 hq9 HS' HT7 e1 p1 t1
  cases r with
  | false =>
    have HDEC := Lib.hid (decode_head5 HBDF.out (by rw [HH.out]; exact Z7.out) (by rw [HH.out]; exact HR.out))
    have hkr := HS2.out.res
    have hkn := HT2.out.res
    have hmr : w.heap.size < w10.heap.size := hkr.lt
    have hmn : w.heap.size + 1 < w10.heap.size := hkn.lt
    have m0 := hkr.cell 0
    have f0 := hkr.free 0
    have n0 := hkn.cell 0
    have m1 := hkr.cell 1
    have f1 := hkr.free 1
    have n1 := hkn.cell 1
    have m2 := hkr.cell 2
    have f2 := hkr.free 2
    have n2 := hkn.cell 2
    have m3 := hkr.cell 3
    have f3 := hkr.free 3
    have n3 := hkn.cell 3
    have m4 := hkr.cell 4
    have f4 := hkr.free 4
    have n4 := hkn.cell 4
    have m5 := hkr.cell 5
    have f5 := hkr.free 5
    have n5 := hkn.cell 5
    simp only [List.getElem?_cons_zero, List.getElem?_cons_succ] at m0 m1 m2 m3 m4 m5 n0 n1 n2 n3 n4 n5
    have HKR := Lib.hid hkr
    clear hkr hkn
    go_wp2_with fail
    have hq := six_ok HKR.out (.int .i64 0) (.int .i64 0) (.int .i64 0) (.int .i64 0) (.int .i64 0) (.slice none 0 0)
    unfold six at hq
    clear m0 m1 m2 m3 m4 m5 f0 f1 f2 f3 f4 f5 n0 n1 n2 n3 n4 n5 hmr hmn
    generalize ((((((w10.setCell ⟨w.heap.size, 0, none⟩ (.int .i64 0)).setCell ⟨w.heap.size, 1, none⟩ (.int .i64 0)).setCell ⟨w.heap.size, 2, none⟩ (.int .i64 0)).setCell ⟨w.heap.size, 3, none⟩ (.int .i64 0)).setCell ⟨w.heap.size, 4, none⟩ (.int .i64 0)).setCell ⟨w.heap.size, 5, none⟩ (.slice none 0 0)) = WF at hq ⊢
    obtain ⟨hqo, hqb⟩ := hq
    have n0 := hqb.cell 0
    have n1 := hqb.cell 1
    have n2 := hqb.cell 2
    have n3 := hqb.cell 3
    have n4 := hqb.cell 4
    have n5 := hqb.cell 5
    simp only [List.getElem?_cons_zero, List.getElem?_cons_succ] at n0 n1 n2 n3 n4 n5
    refine bodyPost_ret (v := .tuple #[.agg #[.int .i64 0, .int .i64 0, .int .i64 0, .int .i64 0, .int .i64 0, .slice none 0 0], .int .i64 5]) ?_ rfl ?_
    · simp [results, Try.results20, asAddr, Result.andThen, n0, n1, n2, n3, n4, n5, go_sem]
    · exact decOf_none (HS2.out.bel.trans (hqo.below HS2.out.bel.size (fun i hi => by omega))) HDEC.out
  | true =>
    have HE0 : Hid (decE (decHead bs) = 0) := Lib.hid (decE_good (by rw [HH.out]; exact Z7.out) (by rw [HH.out]; exact HR.out))
    obtain ⟨zf, hzf⟩ : ∃ o, decZ (decHead bs) = o := ⟨_, rfl⟩
    have HZ0 : Hid (decRun ⟨n1, n2, n3, x4, n5, .slice none 0 0, []⟩ n6 ⟨0, s7, []⟩ = zf) := Lib.hid (by
      have h0 := HE0.out
      rw [← hzf]
      unfold decZ
      rw [h0, HH.out]
      rfl)
    have HZF := Lib.hid hzf
    clear hzf
    have hsz1 := sizeD_in HR.out
    have hsz2 := headI_of HR.out
    simp only [sizeD] at hsz1 hsz2
    obtain ⟨y1, y2, y3, y4⟩ := hsz1
    have y5 : (2 : Int) ≤ (n5 : Int) ∧ (n5 : Int) ≤ 10 := hsz2.2.2.2.2.1
    have y6 : (1 : Int) ≤ (n6 : Int) ∧ (n6 : Int) ≤ 64 := hsz2.2.2.2.2.2
    have Y5 := Lib.hid y5
    clear hsz2 y5
    obtain ⟨y6, y7⟩ := y6
    go_wp2_with fail
    go_loopw [55] (fun i wr => ∃ (k : Nat) (s : RdV) (ys : List (List Int × Int)) (G : Nat) (A : Option Addr) (c : Nat) (v : Value) (xs : List ExV), k ≤ n6 ∧ i = .int .i64 k ∧ Hid (DecR w wr G w.heap.size q (w.heap.size + 1 + 1) A c s [.int .i64 n1, .int .i64 n2, .int .i64 n3, .int .i64 x4, .int .i64 n5] v xs) ∧ Hid (DecR w wr G (w.heap.size + 1) q (w.heap.size + 1 + 1) A c s [.int .i64 n1, .int .i64 n2, .int .i64 n3, .int .i64 x4, .int .i64 n5] v xs) ∧ Hid (xs.map (fun e => (e.data, e.label)) = ys ∧ xs.length = k ∧ decRun ⟨n1, n2, n3, x4, n5, .slice none 0 0, []⟩ (n6 - k) ⟨0, s, ys⟩ = zf ∧ s.2 = 0 ∧ s.1.length ≤ 1048576)) (fun i _ => n6 - (intOf i).toNat)
    case atStart => exact ⟨0, s7, [], q + 1, A7, c7, .slice none 0 0, [], by omega, rfl, HS2, HT2, Lib.hid ⟨rfl, rfl, HZ0.out, Z7.out, l7⟩⟩
    case round =>
      obtain ⟨k, s, ys, G, A8, c8, v8, xs, hk, rfl, hds, hdn, hz⟩ := hrel
      clear HS2 HT2 HZ0
      by_cases hlt : k < n6
      · obtain ⟨sa, hs⟩ : ∃ o, rds s 1 = o := ⟨_, rfl⟩
        obtain ⟨lab, hn⟩ : ∃ o : Nat, deB (rdt s 1) = o := ⟨_, rfl⟩
        have hi0 : RdInv s.1 s.2 := .inl hz.out.2.2.2.1
        have E1 : Hid (deB (takeOut s.1 s.2 1) = lab) := Lib.hid hn
        have E2 : Hid (takeLeft s.1 s.2 1 = sa.1) := Lib.hid (by rw [← hs]; rfl)
        have E3 : Hid (takeErr s.1 s.2 1 = sa.2) := Lib.hid (by rw [← hs]; rfl)
        have HI0 := Lib.hid hi0
        have hsl : s.1.length ≤ 1048576 := hz.out.2.2.2.2
        have la' : sa.1.length ≤ s.1.length := by rw [← hs]; exact rds_len _ _
        have la : sa.1.length ≤ 1048576 := by have := hz.out.2.2.2.2; omega
        have HIa : Hid (RdInv sa.1 sa.2) := Lib.hid (by rw [← hs]; exact rds_inv hi0)
        have HLAB := Lib.hid hn
        have HSA := Lib.hid hs
        obtain ⟨Av, cv, hv8⟩ := own_form hds.out.own
        subst hv8
        clear hn hs hi0
        obtain ⟨sb, hs⟩ : ∃ o, rds sa (sizeD ⟨n1, n2, n3, x4, n5, .slice none 0 0, []⟩) = o := ⟨_, rfl⟩
        obtain ⟨od, hn⟩ : ∃ o, rdt sa (sizeD ⟨n1, n2, n3, x4, n5, .slice none 0 0, []⟩) = o := ⟨_, rfl⟩
        have lb' : sb.1.length ≤ sa.1.length := by rw [← hs]; exact rds_len _ _
        have lb : sb.1.length ≤ 1048576 := by omega
        have HOD := Lib.hid hn
        have HSB := Lib.hid hs
        have ho1 : takeOut sa.1 sa.2 (n1 * n2 * n3) = od := hn
        have lod : od.length ≤ 2048 := by
          obtain ⟨nn, hnn⟩ := Int.eq_ofNat_of_zero_le (a := (n1 : Int) * n2 * n3) (by omega)
          have h1 := takeOut_len sa.1 sa.2 nn
          rw [← hnn] at h1
          rw [ho1] at h1
          omega
        have HO1 := Lib.hid ho1
        have HL1 : Hid (takeLeft sa.1 sa.2 (n1 * n2 * n3) = sb.1) := Lib.hid (by rw [← hs]; rfl)
        have HL2 : Hid (takeErr sa.1 sa.2 (n1 * n2 * n3) = sb.2) := Lib.hid (by rw [← hs]; rfl)
        clear hn hs ho1
        have hw1 : IntKind.i64.wrap ((n1 : Int) * (n2 : Int)) = (n1 : Int) * (n2 : Int) := IntWalk.i64_in _ (by omega)
        have hw2 : IntKind.i64.wrap ((n1 : Int) * (n2 : Int) * (n3 : Int)) = (n1 : Int) * (n2 : Int) * (n3 : Int) := IntWalk.i64_in _ (by omega)
        have HLEN : Hid ((i8s od).length = od.length) := Lib.hid (by unfold i8s; simp)
        have hgG := hds.out.hi.2.2.2.1
        have hpG := hds.out.hi.2.2.1
        go_upto_region 16 with fail
        go_cut [9] (fun sl wx => ∃ (q9 : Nat) (Ax : Option Addr) (cx : Nat) (Ab : Option Addr) (cb : Nat), sl = .pointer (some ⟨q9, 0, none⟩) ∧ G ≤ q9 ∧ Hid (Blk wx q9 45 [.slice Ax od.length cx, .int .i64 lab]) ∧ Hid (DecR w wx G w.heap.size q (w.heap.size + 1 + 1) Ab cb sb [.int .i64 n1, .int .i64 n2, .int .i64 n3, .int .i64 x4, .int .i64 n5] (.slice Av xs.length cv) xs) ∧ Hid (DecR w wx G (w.heap.size + 1) q (w.heap.size + 1 + 1) Ab cb sb [.int .i64 n1, .int .i64 n2, .int .i64 n3, .int .i64 x4, .int .i64 n5] (.slice Av xs.length cv) xs) ∧ Hid (wx.ownsRow G 52 1 (.slice Ax od.length cx) od.length (ints .i8 (i8s od))))
        case first =>
          refine wp_region_held_drew (S := ((fun w' => Blk w' q 33 ([.int .i64 n1, .int .i64 n2, .int .i64 n3, .int .i64 x4, .int .i64 n5] ++ [.slice Av xs.length cv])))) (by kernel_rfl) (hds.out.drew.blk) (fun hHeld => ?_)
          refine' wpAnyH_take (i := 0) (v := _) rfl (by kernel_rfl) (by kernel_rfl) (by kernel_rfl) (fun _ _ _ h => h) (Or.inl ⟨by rfl, ?taq1⟩) (by assumption) ?tbq1
          case taq1 =>
            intro wS hSw
            (try dsimp only at hSw)
            (have m0 := hSw.cell 0; have m1 := hSw.cell 1; have m2 := hSw.cell 2; simp only [List.cons_append, List.nil_append, List.getElem?_cons_zero, List.getElem?_cons_succ] at m0 m1 m2; clear hSw; go_simp)
            (try (with_reducible rfl))
          (try simp only [List.getElem_toArray, List.getElem_cons_zero, List.getElem_cons_succ, Act.put, List.setIfInBounds_toArray, List.set_cons_zero, List.set_cons_succ])
          refine' wpAnyH_take (i := 2) (v := _) rfl (by kernel_rfl) (by kernel_rfl) (by kernel_rfl) (fun _ _ _ h => h) (Or.inl ⟨by rfl, ?taq2⟩) (by assumption) ?tbq2
          case taq2 =>
            intro wS hSw
            (try dsimp only at hSw)
            (have m0 := hSw.cell 0; have m1 := hSw.cell 1; have m2 := hSw.cell 2; simp only [List.cons_append, List.nil_append, List.getElem?_cons_zero, List.getElem?_cons_succ] at m0 m1 m2; clear hSw; go_simp)
            (try (with_reducible rfl))
          (try simp only [List.getElem_toArray, List.getElem_cons_zero, List.getElem_cons_succ, Act.put, List.setIfInBounds_toArray, List.set_cons_zero, List.set_cons_succ])
          refine' wpAnyH_take (i := 3) (v := _) rfl (by kernel_rfl) (by kernel_rfl) (by kernel_rfl) (fun _ _ _ h => h) (Or.inl ⟨by rfl, ?taq3⟩) (by assumption) ?tbq3
          case taq3 =>
            intro wS hSw
            (try dsimp only at hSw)
            (have m0 := hSw.cell 0; have m1 := hSw.cell 1; have m2 := hSw.cell 2; simp only [List.cons_append, List.nil_append, List.getElem?_cons_zero, List.getElem?_cons_succ] at m0 m1 m2; clear hSw; go_simp)
            (try (with_reducible rfl))
          (try simp only [List.getElem_toArray, List.getElem_cons_zero, List.getElem_cons_succ, Act.put, List.setIfInBounds_toArray, List.set_cons_zero, List.set_cons_succ])
          refine' wpAnyH_take (i := 4) (v := _) rfl (by kernel_rfl) (by kernel_rfl) (by kernel_rfl) (fun _ _ _ h => h) (Or.inl ⟨by rfl, ?taq4⟩) (by assumption) ?tbq4
          case taq4 =>
            intro wS hSw
            (try dsimp only at hSw)
            (have m0 := hSw.cell 0; have m1 := hSw.cell 1; have m2 := hSw.cell 2; simp only [List.cons_append, List.nil_append, List.getElem?_cons_zero, List.getElem?_cons_succ] at m0 m1 m2; clear hSw; go_simp)
            (try (with_reducible rfl))
          (try simp only [List.getElem_toArray, List.getElem_cons_zero, List.getElem_cons_succ, Act.put, List.setIfInBounds_toArray, List.set_cons_zero, List.set_cons_succ])
          refine' wpAnyH_take (i := 5) (v := _) rfl (by kernel_rfl) (by kernel_rfl) (by kernel_rfl) (fun _ _ _ h => h) (Or.inl ⟨by rfl, ?taq5⟩) (by assumption) ?tbq5
          case taq5 =>
            intro wS hSw
            (try dsimp only at hSw)
            (have m0 := hSw.cell 0; have m1 := hSw.cell 1; have m2 := hSw.cell 2; simp only [List.cons_append, List.nil_append, List.getElem?_cons_zero, List.getElem?_cons_succ] at m0 m1 m2; clear hSw; go_simp)
            (try (with_reducible rfl))
          (try simp only [List.getElem_toArray, List.getElem_cons_zero, List.getElem_cons_succ, Act.put, List.setIfInBounds_toArray, List.set_cons_zero, List.set_cons_succ])
          refine' wpAnyH_take (i := 6) (v := _) rfl (by kernel_rfl) (by kernel_rfl) (by kernel_rfl) (fun _ _ _ h => h) (Or.inl ⟨by rfl, ?taq6⟩) (by assumption) ?tbq6
          case taq6 =>
            intro wS hSw
            (try dsimp only at hSw)
            (have m0 := hSw.cell 0; have m1 := hSw.cell 1; have m2 := hSw.cell 2; simp only [List.cons_append, List.nil_append, List.getElem?_cons_zero, List.getElem?_cons_succ] at m0 m1 m2; clear hSw; go_simp)
            (try (with_reducible rfl))
          (try simp only [List.getElem_toArray, List.getElem_cons_zero, List.getElem_cons_succ, Act.put, List.setIfInBounds_toArray, List.set_cons_zero, List.set_cons_succ])
          refine' wpAnyH_take (i := 7) (v := _) rfl (by kernel_rfl) (by kernel_rfl) (by kernel_rfl) (fun _ _ _ h => h) (Or.inl ⟨by rfl, ?taq7⟩) (by assumption) ?tbq7
          case taq7 =>
            intro wS hSw
            (try dsimp only at hSw)
            (have m0 := hSw.cell 0; have m1 := hSw.cell 1; have m2 := hSw.cell 2; simp only [List.cons_append, List.nil_append, List.getElem?_cons_zero, List.getElem?_cons_succ] at m0 m1 m2; clear hSw; go_simp)
            (try (with_reducible rfl))
          (try simp only [List.getElem_toArray, List.getElem_cons_zero, List.getElem_cons_succ, Act.put, List.setIfInBounds_toArray, List.set_cons_zero, List.set_cons_succ])
          refine' wpAnyH_take (i := 8) (v := _) rfl (by kernel_rfl) (by kernel_rfl) (by kernel_rfl) (fun _ _ _ h => h) (Or.inl ⟨by rfl, ?taq8⟩) (by assumption) ?tbq8
          case taq8 =>
            intro wS hSw
            (try dsimp only at hSw)
            (have m0 := hSw.cell 0; have m1 := hSw.cell 1; have m2 := hSw.cell 2; simp only [List.cons_append, List.nil_append, List.getElem?_cons_zero, List.getElem?_cons_succ] at m0 m1 m2; clear hSw; go_simp)
            (try (with_reducible rfl))
          (try simp only [List.getElem_toArray, List.getElem_cons_zero, List.getElem_cons_succ, Act.put, List.setIfInBounds_toArray, List.set_cons_zero, List.set_cons_succ])
          refine' wpAnyH_take (i := 9) (v := _) rfl (by kernel_rfl) (by kernel_rfl) (by kernel_rfl) (fun _ _ _ h => h) (Or.inl ⟨by rfl, ?taq9⟩) (by assumption) ?tbq9
          case taq9 =>
            intro wS hSw
            (try dsimp only at hSw)
            (have m0 := hSw.cell 0; have m1 := hSw.cell 1; have m2 := hSw.cell 2; simp only [List.cons_append, List.nil_append, List.getElem?_cons_zero, List.getElem?_cons_succ] at m0 m1 m2; clear hSw; go_simp)
            (try (with_reducible rfl))
          (try simp only [List.getElem_toArray, List.getElem_cons_zero, List.getElem_cons_succ, Act.put, List.setIfInBounds_toArray, List.set_cons_zero, List.set_cons_succ])
          refine' wpAnyH_take (i := 10) (v := _) rfl (by kernel_rfl) (by kernel_rfl) (by kernel_rfl) (fun _ _ _ h => h) (Or.inl ⟨by rfl, ?taq10⟩) (by assumption) ?tbq10
          case taq10 =>
            intro wS hSw
            (try dsimp only at hSw)
            (have m0 := hSw.cell 0; have m1 := hSw.cell 1; have m2 := hSw.cell 2; simp only [List.cons_append, List.nil_append, List.getElem?_cons_zero, List.getElem?_cons_succ] at m0 m1 m2; clear hSw; go_simp)
            (try (with_reducible rfl))
          (try simp only [List.getElem_toArray, List.getElem_cons_zero, List.getElem_cons_succ, Act.put, List.setIfInBounds_toArray, List.set_cons_zero, List.set_cons_succ])
          refine' wpAnyH_take (i := 11) (v := _) rfl (by kernel_rfl) (by kernel_rfl) (by kernel_rfl) (fun _ _ _ h => h) (Or.inl ⟨by rfl, ?taq11⟩) (by assumption) ?tbq11
          case taq11 =>
            intro wS hSw
            (try dsimp only at hSw)
            (have m0 := hSw.cell 0; have m1 := hSw.cell 1; have m2 := hSw.cell 2; simp only [List.cons_append, List.nil_append, List.getElem?_cons_zero, List.getElem?_cons_succ] at m0 m1 m2; clear hSw; go_simp)
            (try (with_reducible rfl))
          (try simp only [List.getElem_toArray, List.getElem_cons_zero, List.getElem_cons_succ, Act.put, List.setIfInBounds_toArray, List.set_cons_zero, List.set_cons_succ])
          refine' wpAnyH_take (i := 12) (v := _) rfl (by kernel_rfl) (by kernel_rfl) (by kernel_rfl) (fun _ _ _ h => h) (Or.inl ⟨by rfl, ?taq12⟩) (by assumption) ?tbq12
          case taq12 =>
            intro wS hSw
            (try dsimp only at hSw)
            (have m0 := hSw.cell 0; have m1 := hSw.cell 1; have m2 := hSw.cell 2; simp only [List.cons_append, List.nil_append, List.getElem?_cons_zero, List.getElem?_cons_succ] at m0 m1 m2; clear hSw; go_simp)
            (try (with_reducible rfl))
          (try simp only [List.getElem_toArray, List.getElem_cons_zero, List.getElem_cons_succ, Act.put, List.setIfInBounds_toArray, List.set_cons_zero, List.set_cons_succ])
          refine' wpAnyH_take (i := 13) (v := _) rfl (by kernel_rfl) (by kernel_rfl) (by kernel_rfl) (fun _ _ _ h => h) (Or.inl ⟨by rfl, ?taq13⟩) (by assumption) ?tbq13
          case taq13 =>
            intro wS hSw
            (try dsimp only at hSw)
            (have m0 := hSw.cell 0; have m1 := hSw.cell 1; have m2 := hSw.cell 2; simp only [List.cons_append, List.nil_append, List.getElem?_cons_zero, List.getElem?_cons_succ] at m0 m1 m2; clear hSw; go_simp)
            (try (with_reducible rfl))
          (try simp only [List.getElem_toArray, List.getElem_cons_zero, List.getElem_cons_succ, Act.put, List.setIfInBounds_toArray, List.set_cons_zero, List.set_cons_succ])
          have HS0 := Lib.hid hds.out.drew
          have HN0 := Lib.hid hdn.out.drew
          refine wpAnyH_ready (rs := [1, 17]) (by kernel_rfl) (by simp) ?_
          refine AllReadyH.cons rfl (fun K9 hK9 => ?_) (AllReadyH.cons rfl (fun K9 hK9 => ?_) AllReadyH.nil)
          ·
            (try simp only [List.getElem_toArray, List.getElem_cons_zero, List.getElem_cons_succ])
            go_simp
            refine (mu8_any _ (w.heap.size + 1 + 1) A8 c8 s.1 s.2 HI0.out HS0.out.rd (by omega)).mono ?_
            rw [E1.out, E2.out, E3.out]
            rintro en wa ⟨rfl, Aa, ca, hrd, hA, ho⟩
            have HS1 := Lib.hid (HS0.out.read (s' := sa) hrd hA ho la')
            have HN1 := Lib.hid (HN0.out.read (s' := sa) hrd hA ho la')
            clear hrd hA ho
            refine hK9.out _ _ (HS1.out.blk) (fun hHeld9 => ?_)
            clear hK9 K9
            (try simp only [List.getElem_toArray, List.getElem_cons_zero, List.getElem_cons_succ, Act.put, List.setIfInBounds_toArray, List.set_cons_zero, List.set_cons_succ])
            refine wpAnyH_ready (rs := [14, 17]) (by kernel_rfl) (by simp) ?_
            refine AllReadyH.cons rfl (fun K9 hK9 => ?_) (AllReadyH.cons rfl (fun K9 hK9 => ?_) AllReadyH.nil)
            ·
              (try simp only [List.getElem_toArray, List.getElem_cons_zero, List.getElem_cons_succ])
              go_simp
              refine (rtake_any wa (w.heap.size + 1 + 1) Aa ca sa.1 sa.2 (n1 * n2 * n3) HIa.out HS1.out.rd (by omega)).mono ?_
              rw [HO1.out, HL1.out, HL2.out]
              rintro en wb ⟨Ao, co, Ab, cb, rfl, hown, hrd, hA, ho⟩
              have HS2 := Lib.hid (HS1.out.read (s' := sb) hrd hA ho lb')
              have HN2 := Lib.hid (HN1.out.read (s' := sb) hrd hA ho lb')
              have HRo := Lib.hid (Reads.of_own hown)
              clear hown hrd hA ho
              refine hK9.out _ _ (HS2.out.blk) (fun hHeld9 => ?_)
              clear hK9 K9
              (try simp only [List.getElem_toArray, List.getElem_cons_zero, List.getElem_cons_succ, Act.put, List.setIfInBounds_toArray, List.set_cons_zero, List.set_cons_succ])
              refine wpAnyH_ready (rs := [15, 17]) (by kernel_rfl) (by simp) ?_
              refine AllReadyH.cons rfl (fun K9 hK9 => ?_) (AllReadyH.cons rfl (fun K9 hK9 => ?_) AllReadyH.nil)
              ·
                (try simp only [List.getElem_toArray, List.getElem_cons_zero, List.getElem_cons_succ])
                go_simp
                refine (rsmalls_any od _ _ _ (Nat.le_refl _) HRo.out (by omega)).mono ?_
                rintro en wc ⟨Ax, cx, rfl, hown, hb⟩
                have HS3 := Lib.hid (HS2.out.below hb)
                have HN3 := Lib.hid (HN2.out.below hb)
                rw [HLEN.out] at hown ⊢
                have hgb := HS2.out.hi.2.2.2.1
                have HOW := Lib.hid (own_lower hown hgb)
                clear hown hb hgb
                refine hK9.out _ _ (HS3.out.blk) (fun hHeld9 => ?_)
                clear hK9 K9
                (try simp only [List.getElem_toArray, List.getElem_cons_zero, List.getElem_cons_succ, Act.put, List.setIfInBounds_toArray, List.set_cons_zero, List.set_cons_succ])
                refine' wpAnyH_take (i := 16) (v := _) rfl (by kernel_rfl) (by kernel_rfl) (by kernel_rfl) (fun _ _ _ h => h) (Or.inl ⟨by rfl, ?taq14⟩) (by assumption) ?tbq14
                case taq14 =>
                  intro wS hSw
                  (try dsimp only at hSw)
                  go_simp
                  (try (with_reducible rfl))
                (try simp only [List.getElem_toArray, List.getElem_cons_zero, List.getElem_cons_succ, Act.put, List.setIfInBounds_toArray, List.set_cons_zero, List.set_cons_succ])
                refine wpAnyH_ready (rs := [17]) (by kernel_rfl) (by simp) ?_
                refine AllReadyH.cons rfl (fun K9 hK9 => ?_) AllReadyH.nil
                (try simp only [List.getElem_toArray, List.getElem_cons_zero, List.getElem_cons_succ])
                go_simp
                have HSz := Lib.hid (HS3.out.alloc (.cells #[.slice none 0 0, .int .i64 0] 45))
                refine hK9.out _ _ (HSz.out.blk) (fun hHeld9 => ?_)
                clear hK9 K9
                (try simp only [List.getElem_toArray, List.getElem_cons_zero, List.getElem_cons_succ, Act.put, List.setIfInBounds_toArray, List.set_cons_zero, List.set_cons_succ])
                refine wpAnyH_ready (rs := [18]) (by kernel_rfl) (by simp) ?_
                refine AllReadyH.cons rfl (fun K9 hK9 => ?_) AllReadyH.nil
                (try simp only [List.getElem_toArray, List.getElem_cons_zero, List.getElem_cons_succ])
                go_simp
                have HSy := Lib.hid (HS3.out.alloc (.cells #[.slice Ax od.length cx, .int .i64 lab] 45))
                have HNy := Lib.hid (HN3.out.alloc (.cells #[.slice Ax od.length cx, .int .i64 lab] 45))
                have KX := Lib.hid (Blk.fresh wc 45 [.slice Ax od.length cx, .int .i64 lab])
                have OY := Lib.hid (HOW.out.alloc (.cells #[.slice Ax od.length cx, .int .i64 lab] 45))
                have hg9 : G ≤ wc.heap.size := HS3.out.hi.2.2.2.1
                refine hK9.out _ _ (HSy.out.blk) (fun hHeld9 => ?_)
                clear hK9 K9
                (try simp only [List.getElem_toArray, List.getElem_cons_zero, List.getElem_cons_succ, Act.put, List.setIfInBounds_toArray, List.set_cons_zero, List.set_cons_succ])
                refine wpAnyH_done (by kernel_rfl) ?_ _
                go_wp2_with fail
                go_meet
                case rel => exact ⟨_, Ax, cx, Ab, cb, rfl, hg9, KX, HSy, HNy, OY⟩
              ·
                (try simp only [List.getElem_toArray, List.getElem_cons_zero, List.getElem_cons_succ])
                go_simp
                have HX0 := Blk.fresh wb 45 [.slice none 0 0, .int .i64 0]
                have HSt := (HS2.out.alloc (.cells #[.slice none 0 0, .int .i64 0] 45))
                have HNt := (HN2.out.alloc (.cells #[.slice none 0 0, .int .i64 0] 45))
                have hg9 : G ≤ wb.heap.size := HS2.out.hi.2.2.2.1
                clear HS2 HN2
                have HS2 := Lib.hid HSt
                have HN2 := Lib.hid HNt
                have HX := Lib.hid HX0
                clear HSt HNt HX0
                have HRo := Lib.hid ((HRo.out.alloc (Nat.le_refl _) (.cells #[.slice none 0 0, .int .i64 0] 45)).more (B' := (wb.alloc (.cells #[.slice none 0 0, .int .i64 0] 45)).heap.size) (by rw [World.size_alloc]; omega))
                obtain ⟨q9, hq9⟩ : ∃ x, wb.heap.size = x := ⟨_, rfl⟩
                rw [hq9] at HX hg9 ⊢
                clear hq9
                refine hK9.out _ _ (HS2.out.blk) (fun hHeld9 => ?_)
                clear hK9 K9
                (try simp only [List.getElem_toArray, List.getElem_cons_zero, List.getElem_cons_succ, Act.put, List.setIfInBounds_toArray, List.set_cons_zero, List.set_cons_succ])
                refine wpAnyH_ready (rs := [15]) (by kernel_rfl) (by simp) ?_
                refine AllReadyH.cons rfl (fun K9 hK9 => ?_) AllReadyH.nil
                (try simp only [List.getElem_toArray, List.getElem_cons_zero, List.getElem_cons_succ])
                go_simp
                refine (rsmalls_any od _ _ _ (Nat.le_refl _) HRo.out (by omega)).mono ?_
                rintro en wc ⟨Ax, cx, rfl, hown, hb⟩
                have HS3 := Lib.hid (HS2.out.below hb)
                have HN3 := Lib.hid (HN2.out.below hb)
                rw [HLEN.out] at hown ⊢
                have hgb := HS2.out.hi.2.2.2.1
                have HOW := Lib.hid (own_lower hown hgb)
                have HOB := Lib.hid (fun k hk => show q9 < k by have h1 := (hown.lt k hk).1; have h2 := HX.out.lt; omega)
                have HX := Lib.hid (HX.out.below hb HX.out.lt)
                clear hown hb hgb
                refine hK9.out _ _ (HS3.out.blk) (fun hHeld9 => ?_)
                clear hK9 K9
                (try simp only [List.getElem_toArray, List.getElem_cons_zero, List.getElem_cons_succ, Act.put, List.setIfInBounds_toArray, List.set_cons_zero, List.set_cons_succ])
                refine' wpAnyH_take (i := 16) (v := _) rfl (by kernel_rfl) (by kernel_rfl) (by kernel_rfl) (fun _ _ _ h => h) (Or.inl ⟨by rfl, ?taq15⟩) (by assumption) ?tbq15
                case taq15 =>
                  intro wS hSw
                  (try dsimp only at hSw)
                  go_simp
                  (try (with_reducible rfl))
                (try simp only [List.getElem_toArray, List.getElem_cons_zero, List.getElem_cons_succ, Act.put, List.setIfInBounds_toArray, List.set_cons_zero, List.set_cons_succ])
                have hq0 := HX.out.cell 0
                have hq1 := HX.out.cell 1
                have hf0 := HX.out.free 0
                have hf1 := HX.out.free 1
                have hlx := HX.out.lt
                simp only [List.getElem?_cons_zero, List.getElem?_cons_succ] at hq0 hq1
                refine wpAnyH_ready (rs := [18]) (by kernel_rfl) (by simp) ?_
                refine AllReadyH.cons rfl (fun K9 hK9 => ?_) AllReadyH.nil
                (try simp only [List.getElem_toArray, List.getElem_cons_zero, List.getElem_cons_succ])
                go_simp
                have hoff : Off (fun i => i = q9) wc ((wc.setCell ⟨q9, 0, none⟩ (.slice Ax od.length cx)).setCell ⟨q9, 1, none⟩ (.int .i64 lab)) := ((Off.refl (fun i => i = q9) wc).setCell (p := ⟨q9, 0, none⟩) (.inl rfl) _).setCell (p := ⟨q9, 1, none⟩) (.inl rfl) _
                have HSy := Lib.hid (HS3.out.aside hoff (fun i hi => by omega))
                have HNy := Lib.hid (HN3.out.aside hoff (fun i hi => by omega))
                have KX := Lib.hid ((HX.out.put 0 (.slice Ax od.length cx)).put 1 (.int .i64 lab))
                have OY := Lib.hid (own_off HOW.out hoff (fun k hk => by have := HOB.out k hk; omega))
                clear hq0 hq1 hf0 hf1 hlx hoff
                refine hK9.out _ _ (HSy.out.blk) (fun hHeld9 => ?_)
                clear hK9 K9
                (try simp only [List.getElem_toArray, List.getElem_cons_zero, List.getElem_cons_succ, Act.put, List.setIfInBounds_toArray, List.set_cons_zero, List.set_cons_succ])
                refine wpAnyH_done (by kernel_rfl) ?_ _
                go_wp2_with fail
                go_meet
                case rel => exact ⟨q9, Ax, cx, Ab, cb, rfl, hg9, KX, HSy, HNy, OY⟩
            ·
              (try simp only [List.getElem_toArray, List.getElem_cons_zero, List.getElem_cons_succ])
              go_simp
              have HX0 := Blk.fresh wa 45 [.slice none 0 0, .int .i64 0]
              have HSt := (HS1.out.alloc (.cells #[.slice none 0 0, .int .i64 0] 45))
              have HNt := (HN1.out.alloc (.cells #[.slice none 0 0, .int .i64 0] 45))
              have hg9 : G ≤ wa.heap.size := HS1.out.hi.2.2.2.1
              clear HS1 HN1
              have HS1 := Lib.hid HSt
              have HN1 := Lib.hid HNt
              have HX := Lib.hid HX0
              clear HSt HNt HX0
              generalize wa.heap.size = q9 at HX hg9 ⊢
              refine hK9.out _ _ (HS1.out.blk) (fun hHeld9 => ?_)
              clear hK9 K9
              (try simp only [List.getElem_toArray, List.getElem_cons_zero, List.getElem_cons_succ, Act.put, List.setIfInBounds_toArray, List.set_cons_zero, List.set_cons_succ])
              refine wpAnyH_ready (rs := [14]) (by kernel_rfl) (by simp) ?_
              refine AllReadyH.cons rfl (fun K9 hK9 => ?_) AllReadyH.nil
              (try simp only [List.getElem_toArray, List.getElem_cons_zero, List.getElem_cons_succ])
              go_simp
              refine (rtake_any _ (w.heap.size + 1 + 1) Aa ca sa.1 sa.2 (n1 * n2 * n3) HIa.out HS1.out.rd (by omega)).mono ?_
              rw [HO1.out, HL1.out, HL2.out]
              rintro en wb ⟨Ao, co, Ab, cb, rfl, hown, hrd, hA, ho⟩
              have HS2 := Lib.hid (HS1.out.read (s' := sb) hrd hA ho lb')
              have HN2 := Lib.hid (HN1.out.read (s' := sb) hrd hA ho lb')
              have HRo := Lib.hid (Reads.of_own hown)
              have HX := Lib.hid (HX.out.off ho (by omega))
              clear hown hrd hA ho
              refine hK9.out _ _ (HS2.out.blk) (fun hHeld9 => ?_)
              clear hK9 K9
              (try simp only [List.getElem_toArray, List.getElem_cons_zero, List.getElem_cons_succ, Act.put, List.setIfInBounds_toArray, List.set_cons_zero, List.set_cons_succ])
              refine wpAnyH_ready (rs := [15]) (by kernel_rfl) (by simp) ?_
              refine AllReadyH.cons rfl (fun K9 hK9 => ?_) AllReadyH.nil
              (try simp only [List.getElem_toArray, List.getElem_cons_zero, List.getElem_cons_succ])
              go_simp
              refine (rsmalls_any od _ _ _ (Nat.le_refl _) HRo.out (by omega)).mono ?_
              rintro en wc ⟨Ax, cx, rfl, hown, hb⟩
              have HS3 := Lib.hid (HS2.out.below hb)
              have HN3 := Lib.hid (HN2.out.below hb)
              rw [HLEN.out] at hown ⊢
              have hgb := HS2.out.hi.2.2.2.1
              have HOW := Lib.hid (own_lower hown hgb)
              have HOB := Lib.hid (fun k hk => show q9 < k by have h1 := (hown.lt k hk).1; have h2 := HX.out.lt; omega)
              have HX := Lib.hid (HX.out.below hb HX.out.lt)
              clear hown hb hgb
              refine hK9.out _ _ (HS3.out.blk) (fun hHeld9 => ?_)
              clear hK9 K9
              (try simp only [List.getElem_toArray, List.getElem_cons_zero, List.getElem_cons_succ, Act.put, List.setIfInBounds_toArray, List.set_cons_zero, List.set_cons_succ])
              refine' wpAnyH_take (i := 16) (v := _) rfl (by kernel_rfl) (by kernel_rfl) (by kernel_rfl) (fun _ _ _ h => h) (Or.inl ⟨by rfl, ?taq16⟩) (by assumption) ?tbq16
              case taq16 =>
                intro wS hSw
                (try dsimp only at hSw)
                go_simp
                (try (with_reducible rfl))
              (try simp only [List.getElem_toArray, List.getElem_cons_zero, List.getElem_cons_succ, Act.put, List.setIfInBounds_toArray, List.set_cons_zero, List.set_cons_succ])
              have hq0 := HX.out.cell 0
              have hq1 := HX.out.cell 1
              have hf0 := HX.out.free 0
              have hf1 := HX.out.free 1
              have hlx := HX.out.lt
              simp only [List.getElem?_cons_zero, List.getElem?_cons_succ] at hq0 hq1
              refine wpAnyH_ready (rs := [18]) (by kernel_rfl) (by simp) ?_
              refine AllReadyH.cons rfl (fun K9 hK9 => ?_) AllReadyH.nil
              (try simp only [List.getElem_toArray, List.getElem_cons_zero, List.getElem_cons_succ])
              go_simp
              have hoff : Off (fun i => i = q9) wc ((wc.setCell ⟨q9, 0, none⟩ (.slice Ax od.length cx)).setCell ⟨q9, 1, none⟩ (.int .i64 lab)) := ((Off.refl (fun i => i = q9) wc).setCell (p := ⟨q9, 0, none⟩) (.inl rfl) _).setCell (p := ⟨q9, 1, none⟩) (.inl rfl) _
              have HSy := Lib.hid (HS3.out.aside hoff (fun i hi => by omega))
              have HNy := Lib.hid (HN3.out.aside hoff (fun i hi => by omega))
              have KX := Lib.hid ((HX.out.put 0 (.slice Ax od.length cx)).put 1 (.int .i64 lab))
              have OY := Lib.hid (own_off HOW.out hoff (fun k hk => by have := HOB.out k hk; omega))
              clear hq0 hq1 hf0 hf1 hlx hoff
              refine hK9.out _ _ (HSy.out.blk) (fun hHeld9 => ?_)
              clear hK9 K9
              (try simp only [List.getElem_toArray, List.getElem_cons_zero, List.getElem_cons_succ, Act.put, List.setIfInBounds_toArray, List.set_cons_zero, List.set_cons_succ])
              refine wpAnyH_done (by kernel_rfl) ?_ _
              go_wp2_with fail
              go_meet
              case rel => exact ⟨q9, Ax, cx, Ab, cb, rfl, hg9, KX, HSy, HNy, OY⟩
          ·
            (try simp only [List.getElem_toArray, List.getElem_cons_zero, List.getElem_cons_succ])
            go_simp
            have HS0 := Lib.hid (hds.out.alloc (.cells #[.slice none 0 0, .int .i64 0] 45)).drew
            have HN0 := Lib.hid (hdn.out.alloc (.cells #[.slice none 0 0, .int .i64 0] 45)).drew
            have HX := Lib.hid (Blk.fresh wr 45 [.slice none 0 0, .int .i64 0]).drew
            have hg9 : G ≤ wr.heap.size := hgG
            generalize wr.heap.size = q9 at HX hg9 ⊢
            refine hK9.out _ _ (HS0.out.blk) (fun hHeld9 => ?_)
            clear hK9 K9
            (try simp only [List.getElem_toArray, List.getElem_cons_zero, List.getElem_cons_succ, Act.put, List.setIfInBounds_toArray, List.set_cons_zero, List.set_cons_succ])
            refine wpAnyH_ready (rs := [1]) (by kernel_rfl) (by simp) ?_
            refine AllReadyH.cons rfl (fun K9 hK9 => ?_) AllReadyH.nil
            (try simp only [List.getElem_toArray, List.getElem_cons_zero, List.getElem_cons_succ])
            go_simp
            refine (mu8_any _ (w.heap.size + 1 + 1) A8 c8 s.1 s.2 HI0.out HS0.out.rd (by omega)).mono ?_
            rw [E1.out, E2.out, E3.out]
            rintro en wa ⟨rfl, Aa, ca, hrd, hA, ho⟩
            have HS1 := Lib.hid (HS0.out.read (s' := sa) hrd hA ho la')
            have HN1 := Lib.hid (HN0.out.read (s' := sa) hrd hA ho la')
            have HX := Lib.hid (HX.out.off ho (by omega))
            clear hrd hA ho
            refine hK9.out _ _ (HS1.out.blk) (fun hHeld9 => ?_)
            clear hK9 K9
            (try simp only [List.getElem_toArray, List.getElem_cons_zero, List.getElem_cons_succ, Act.put, List.setIfInBounds_toArray, List.set_cons_zero, List.set_cons_succ])
            refine wpAnyH_ready (rs := [14]) (by kernel_rfl) (by simp) ?_
            refine AllReadyH.cons rfl (fun K9 hK9 => ?_) AllReadyH.nil
            (try simp only [List.getElem_toArray, List.getElem_cons_zero, List.getElem_cons_succ])
            go_simp
            refine (rtake_any wa (w.heap.size + 1 + 1) Aa ca sa.1 sa.2 (n1 * n2 * n3) HIa.out HS1.out.rd (by omega)).mono ?_
            rw [HO1.out, HL1.out, HL2.out]
            rintro en wb ⟨Ao, co, Ab, cb, rfl, hown, hrd, hA, ho⟩
            have HS2 := Lib.hid (HS1.out.read (s' := sb) hrd hA ho lb')
            have HN2 := Lib.hid (HN1.out.read (s' := sb) hrd hA ho lb')
            have HRo := Lib.hid (Reads.of_own hown)
            have HX := Lib.hid (HX.out.off ho (by omega))
            clear hown hrd hA ho
            refine hK9.out _ _ (HS2.out.blk) (fun hHeld9 => ?_)
            clear hK9 K9
            (try simp only [List.getElem_toArray, List.getElem_cons_zero, List.getElem_cons_succ, Act.put, List.setIfInBounds_toArray, List.set_cons_zero, List.set_cons_succ])
            refine wpAnyH_ready (rs := [15]) (by kernel_rfl) (by simp) ?_
            refine AllReadyH.cons rfl (fun K9 hK9 => ?_) AllReadyH.nil
            (try simp only [List.getElem_toArray, List.getElem_cons_zero, List.getElem_cons_succ])
            go_simp
            refine (rsmalls_any od _ _ _ (Nat.le_refl _) HRo.out (by omega)).mono ?_
            rintro en wc ⟨Ax, cx, rfl, hown, hb⟩
            have HS3 := Lib.hid (HS2.out.below hb)
            have HN3 := Lib.hid (HN2.out.below hb)
            rw [HLEN.out] at hown ⊢
            have hgb := HS2.out.hi.2.2.2.1
            have HOW := Lib.hid (own_lower hown hgb)
            have HOB := Lib.hid (fun k hk => show q9 < k by have h1 := (hown.lt k hk).1; have h2 := HX.out.lt; omega)
            have HX := Lib.hid (HX.out.below hb HX.out.lt)
            clear hown hb hgb
            refine hK9.out _ _ (HS3.out.blk) (fun hHeld9 => ?_)
            clear hK9 K9
            (try simp only [List.getElem_toArray, List.getElem_cons_zero, List.getElem_cons_succ, Act.put, List.setIfInBounds_toArray, List.set_cons_zero, List.set_cons_succ])
            refine' wpAnyH_take (i := 16) (v := _) rfl (by kernel_rfl) (by kernel_rfl) (by kernel_rfl) (fun _ _ _ h => h) (Or.inl ⟨by rfl, ?taq17⟩) (by assumption) ?tbq17
            case taq17 =>
              intro wS hSw
              (try dsimp only at hSw)
              go_simp
              (try (with_reducible rfl))
            (try simp only [List.getElem_toArray, List.getElem_cons_zero, List.getElem_cons_succ, Act.put, List.setIfInBounds_toArray, List.set_cons_zero, List.set_cons_succ])
            have hq0 := HX.out.cell 0
            have hq1 := HX.out.cell 1
            have hf0 := HX.out.free 0
            have hf1 := HX.out.free 1
            have hlx := HX.out.lt
            simp only [List.getElem?_cons_zero, List.getElem?_cons_succ] at hq0 hq1
            refine wpAnyH_ready (rs := [18]) (by kernel_rfl) (by simp) ?_
            refine AllReadyH.cons rfl (fun K9 hK9 => ?_) AllReadyH.nil
            (try simp only [List.getElem_toArray, List.getElem_cons_zero, List.getElem_cons_succ])
            go_simp
            have hoff : Off (fun i => i = q9) wc ((wc.setCell ⟨q9, 0, none⟩ (.slice Ax od.length cx)).setCell ⟨q9, 1, none⟩ (.int .i64 lab)) := ((Off.refl (fun i => i = q9) wc).setCell (p := ⟨q9, 0, none⟩) (.inl rfl) _).setCell (p := ⟨q9, 1, none⟩) (.inl rfl) _
            have HSy := Lib.hid (HS3.out.aside hoff (fun i hi => by omega))
            have HNy := Lib.hid (HN3.out.aside hoff (fun i hi => by omega))
            have KX := Lib.hid ((HX.out.put 0 (.slice Ax od.length cx)).put 1 (.int .i64 lab))
            have OY := Lib.hid (own_off HOW.out hoff (fun k hk => by have := HOB.out k hk; omega))
            clear hq0 hq1 hf0 hf1 hlx hoff
            refine hK9.out _ _ (HSy.out.blk) (fun hHeld9 => ?_)
            clear hK9 K9
            (try simp only [List.getElem_toArray, List.getElem_cons_zero, List.getElem_cons_succ, Act.put, List.setIfInBounds_toArray, List.set_cons_zero, List.set_cons_succ])
            refine wpAnyH_done (by kernel_rfl) ?_ _
            go_wp2_with fail
            go_meet
            case rel => exact ⟨q9, Ax, cx, Ab, cb, rfl, hg9, KX, HSy, HNy, OY⟩
        case rest =>
          obtain ⟨q9, Ax, cx, Ab, cb, rfl, hg9, HK, HS1, HN1, HOW⟩ := hcut
          clear hds hdn HIa HI0 hw1 hw2 HO1 HL1 HL2 E1 E2 E3 la la' lb'
          have hxk : xs.length < 65536 := by have := hz.out.2.1; omega
          obtain ⟨r1, hr1⟩ : ∃ o, oneI ⟨n1, n2, n3, x4, n5, .slice none 0 0, []⟩ (exV (i8s od, (lab : Int))) = o := ⟨_, rfl⟩
          have HST : Hid (decStep ⟨n1, n2, n3, x4, n5, .slice none 0 0, []⟩ ⟨0, s, ys⟩ = ⟨if endErr sb.1 sb.2 = 4 then 4 else if r1 = true then 0 else 5, sb, ys ++ [(i8s od, (lab : Int))]⟩) := Lib.hid (by
            unfold decStep
            simp only [HSA.out, HLAB.out, HOD.out, HSB.out, hr1])
          have HZ1 : Hid (decRun ⟨n1, n2, n3, x4, n5, .slice none 0 0, []⟩ (n6 - (k + 1)) ⟨if endErr sb.1 sb.2 = 4 then 4 else if r1 = true then 0 else 5, sb, ys ++ [(i8s od, (lab : Int))]⟩ = zf) := Lib.hid (by
            have h1 := hz.out.2.2.1
            rw [show n6 - k = (n6 - (k + 1)) + 1 by omega, decRun, if_pos rfl, HST.out] at h1
            exact h1)
          have HIb : Hid (RdInv sb.1 sb.2) := Lib.hid (by rw [← HSB.out]; exact rds_inv (by rw [← HSA.out]; exact rds_inv (.inl hz.out.2.2.2.1)))
          have e1 := HS1.out.rd.blk.cell 1
          have p1 := HS1.out.rd.blk.lt
          simp only [List.getElem?_cons_zero, List.getElem?_cons_succ] at e1
          by_cases h1 : sb.2 = 0
          case neg =>
            have t1 : (sb.2 != 0) = true := by simpa using h1
            have HDEC : Hid (decode bs = (4, noneD, [])) := Lib.hid (by
              have h4 : sb.2 = 4 := by
                rcases HIb.out with h | h
                · exact absurd h h1
                · exact h.1
              have hz1 := HZ1.out
              rw [endErr_of h1, h4, if_pos rfl, decRun_ne (by simp)] at hz1
              have hE : decEnd zf = 4 := by rw [← hz1]; rfl
              rw [decode_end HBDF.out HZF.out (by rw [hE]; decide), hE])
            clear h1
            have hkr := HS1.out.res
            have hkn := HN1.out.res
            have hmr : w.heap.size < wc.heap.size := hkr.lt
            have hmn : w.heap.size + 1 < wc.heap.size := hkn.lt
            have m0 := hkr.cell 0
            have f0 := hkr.free 0
            have n0 := hkn.cell 0
            have m1 := hkr.cell 1
            have f1 := hkr.free 1
            have n1 := hkn.cell 1
            have m2 := hkr.cell 2
            have f2 := hkr.free 2
            have n2 := hkn.cell 2
            have m3 := hkr.cell 3
            have f3 := hkr.free 3
            have n3 := hkn.cell 3
            have m4 := hkr.cell 4
            have f4 := hkr.free 4
            have n4 := hkn.cell 4
            have m5 := hkr.cell 5
            have f5 := hkr.free 5
            have n5 := hkn.cell 5
            simp only [List.getElem?_cons_zero, List.getElem?_cons_succ] at m0 m1 m2 m3 m4 m5 n0 n1 n2 n3 n4 n5
            have HKR := Lib.hid hkr
            clear hkr hkn
            go_wp2_with fail
            have hq := six_ok HKR.out (.int .i64 0) (.int .i64 0) (.int .i64 0) (.int .i64 0) (.int .i64 0) (.slice none 0 0)
            unfold six at hq
            clear m0 m1 m2 m3 m4 m5 f0 f1 f2 f3 f4 f5 n0 n1 n2 n3 n4 n5 hmr hmn
            generalize ((((((wc.setCell ⟨w.heap.size, 0, none⟩ (.int .i64 0)).setCell ⟨w.heap.size, 1, none⟩ (.int .i64 0)).setCell ⟨w.heap.size, 2, none⟩ (.int .i64 0)).setCell ⟨w.heap.size, 3, none⟩ (.int .i64 0)).setCell ⟨w.heap.size, 4, none⟩ (.int .i64 0)).setCell ⟨w.heap.size, 5, none⟩ (.slice none 0 0)) = WF at hq ⊢
            obtain ⟨hqo, hqb⟩ := hq
            have n0 := hqb.cell 0
            have n1 := hqb.cell 1
            have n2 := hqb.cell 2
            have n3 := hqb.cell 3
            have n4 := hqb.cell 4
            have n5 := hqb.cell 5
            simp only [List.getElem?_cons_zero, List.getElem?_cons_succ] at n0 n1 n2 n3 n4 n5
            refine bodyPost_ret (v := .tuple #[.agg #[.int .i64 0, .int .i64 0, .int .i64 0, .int .i64 0, .int .i64 0, .slice none 0 0], .int .i64 4]) ?_ rfl ?_
            · simp [results, Try.results20, asAddr, Result.andThen, n0, n1, n2, n3, n4, n5, go_sem]
            · exact decOf_none (HS1.out.bel.trans (hqo.below HS1.out.bel.size (fun i hi => by omega))) HDEC.out
          have t1 : (sb.2 != 0) = false := by simpa using h1
          have ZB := Lib.hid h1
          have HZ2 : Hid (decRun ⟨n1, n2, n3, x4, n5, .slice none 0 0, []⟩ (n6 - (k + 1)) ⟨if r1 = true then 0 else 5, sb, ys ++ [(i8s od, (lab : Int))]⟩ = zf) := Lib.hid (by
            have hz1 := HZ1.out
            rw [if_neg (by rw [h1]; unfold endErr; split <;> decide)] at hz1
            exact hz1)
          clear h1
          have HRD := Lib.hid (Reads.of_own HOW.out)
          have HON := Lib.hid (rone_any n1 n2 n3 x4 n5 Av xs.length cv [] Ax cx (i8s od) lab wc wc.heap.size (Nat.le_refl _) (by rw [HLEN.out]; exact HRD.out) (by rw [HLEN.out]; omega) ⟨y3, y4⟩ ⟨y1, y2⟩ Y5.out r1 (by rw [← hr1]; exact oneI_form _ _ _ _ rfl rfl rfl rfl rfl rfl))
          rw [HLEN.out] at HON
          have hkq := HS1.out.blk
          have hqx : q < wc.heap.size := hkq.lt
          have m0 := hkq.cell 0
          have m1 := hkq.cell 1
          have m2 := hkq.cell 2
          have m3 := hkq.cell 3
          have m4 := hkq.cell 4
          have m5 := hkq.cell 5
          simp only [List.cons_append, List.nil_append, List.getElem?_cons_zero, List.getElem?_cons_succ] at m0 m1 m2 m3 m4 m5
          have kb0 := HK.out.cell 0
          have kb1 := HK.out.cell 1
          have hgx := HK.out.lt
          simp only [List.getElem?_cons_zero, List.getElem?_cons_succ] at kb0 kb1
          clear hkq hr1 HRD
          go_wp2_with fail
          refine HON.out.mono ?_
          rintro en wz ⟨rfl, hb⟩
          have HSx := Lib.hid (HS1.out.below hb)
          have HNx := Lib.hid (HN1.out.below hb)
          have HOx := Lib.hid (own_bel3 HOW.out hb)
          have hkg2 := HK.out.below hb hgx
          clear hb m0 m1 m2 m3 m4 m5 kb0 kb1 hqx hgx HON HS1 HN1 HK HOW e1 p1 t1
          cases r1 with
          | false =>
            have HDEC : Hid (decode bs = (5, noneD, [])) := Lib.hid (by
              have hz1 := HZ2.out
              rw [if_neg (by decide), decRun_ne (by simp)] at hz1
              have hE : decEnd zf = 5 := by rw [← hz1]; rfl
              rw [decode_end HBDF.out HZF.out (by rw [hE]; decide), hE])
            have hkr := HSx.out.res
            have hkn := HNx.out.res
            have hmr : w.heap.size < wz.heap.size := hkr.lt
            have hmn : w.heap.size + 1 < wz.heap.size := hkn.lt
            have m0 := hkr.cell 0
            have f0 := hkr.free 0
            have n0 := hkn.cell 0
            have m1 := hkr.cell 1
            have f1 := hkr.free 1
            have n1 := hkn.cell 1
            have m2 := hkr.cell 2
            have f2 := hkr.free 2
            have n2 := hkn.cell 2
            have m3 := hkr.cell 3
            have f3 := hkr.free 3
            have n3 := hkn.cell 3
            have m4 := hkr.cell 4
            have f4 := hkr.free 4
            have n4 := hkn.cell 4
            have m5 := hkr.cell 5
            have f5 := hkr.free 5
            have n5 := hkn.cell 5
            simp only [List.getElem?_cons_zero, List.getElem?_cons_succ] at m0 m1 m2 m3 m4 m5 n0 n1 n2 n3 n4 n5
            have HKR := Lib.hid hkr
            clear hkr hkn
            go_wp2_with fail
            have hq := six_ok HKR.out (.int .i64 0) (.int .i64 0) (.int .i64 0) (.int .i64 0) (.int .i64 0) (.slice none 0 0)
            unfold six at hq
            clear m0 m1 m2 m3 m4 m5 f0 f1 f2 f3 f4 f5 n0 n1 n2 n3 n4 n5 hmr hmn
            generalize ((((((wz.setCell ⟨w.heap.size, 0, none⟩ (.int .i64 0)).setCell ⟨w.heap.size, 1, none⟩ (.int .i64 0)).setCell ⟨w.heap.size, 2, none⟩ (.int .i64 0)).setCell ⟨w.heap.size, 3, none⟩ (.int .i64 0)).setCell ⟨w.heap.size, 4, none⟩ (.int .i64 0)).setCell ⟨w.heap.size, 5, none⟩ (.slice none 0 0)) = WF at hq ⊢
            obtain ⟨hqo, hqb⟩ := hq
            have n0 := hqb.cell 0
            have n1 := hqb.cell 1
            have n2 := hqb.cell 2
            have n3 := hqb.cell 3
            have n4 := hqb.cell 4
            have n5 := hqb.cell 5
            simp only [List.getElem?_cons_zero, List.getElem?_cons_succ] at n0 n1 n2 n3 n4 n5
            refine bodyPost_ret (v := .tuple #[.agg #[.int .i64 0, .int .i64 0, .int .i64 0, .int .i64 0, .int .i64 0, .slice none 0 0], .int .i64 5]) ?_ rfl ?_
            · simp [results, Try.results20, asAddr, Result.andThen, n0, n1, n2, n3, n4, n5, go_sem]
            · exact decOf_none (HSx.out.bel.trans (hqo.below HSx.out.bel.size (fun i hi => by omega))) HDEC.out
          | true =>
            rw [if_pos rfl] at HZ2
            have hkq := HSx.out.blk
            have hqx : q < wz.heap.size := hkq.lt
            have m5 := hkq.cell 5
            have kb0 := hkg2.cell 0
            have kb1 := hkg2.cell 1
            have hgx := hkg2.lt
            simp only [List.cons_append, List.nil_append, List.getElem?_cons_zero, List.getElem?_cons_succ] at m5 kb0 kb1
            clear hkq hkg2
            have hgz := HSx.out.hi.2.2.2.1
            go_wp2_with (at_builtin; refine wpList_extendN elem_ex _ rfl (.tmp 86) (.tmp 88) rfl w.heap.size xs.length _ (xs.flatMap ExV.cells) rfl (HSx.out.alloc (.cells #[.slice Ax od.length cx, .int .i64 lab] 45)).own _ 1 _ [.slice Ax od.length cx, .int .i64 lab] rfl ((Blk.fresh wz 45 [.slice Ax od.length cx, .int .i64 lab]).readsN (n := 1) rfl (by decide)) rfl (by simp [Value.oneCell']) (by unfold maxLen; omega) (by omega) (by have := HSx.out.bel.size; simp; omega) ?_; intro A9 c9 w9' hown9 hgrow9 hfr9; have hbq := (HSx.out.blk.alloc (.cells #[.slice Ax od.length cx, .int .i64 lab] 45)).grown hgrow9 (Ne.symm HSx.out.vb.2.1); have fq := hbq.free 5; have mq := hbq.cell 5; have lq := hbq.lt; simp only [List.cons_append, List.nil_append, List.getElem?_cons_zero, List.getElem?_cons_succ] at mq)
            have hox := (own_lower HOx.out (show w.heap.size ≤ G by have := HSx.out.lo; have := HSx.out.hi; omega))
            have HP := Lib.hid ((HSx.out.alloc (.cells #[.slice Ax od.length cx, .int .i64 lab] 45)).push (x := ⟨.slice Ax od.length cx, i8s od, lab⟩) rfl (by simp only [HLEN.out]; exact hox.alloc _) (fun k hk => by have := (HOx.out.lt k hk).1; omega) (by rw [List.length_append, List.flatMap_append]; exact hown9) hgrow9 hfr9)
            have HPN := Lib.hid ((HNx.out.alloc (.cells #[.slice Ax od.length cx, .int .i64 lab] 45)).push (x := ⟨.slice Ax od.length cx, i8s od, lab⟩) rfl (by simp only [HLEN.out]; exact hox.alloc _) (fun k hk => by have := (HOx.out.lt k hk).1; omega) (by rw [List.length_append, List.flatMap_append]; exact hown9) hgrow9 hfr9)
            clear hown9 hgrow9 hfr9 hbq fq mq lq hox
            go_wp2
            go_roundw
            case rel => exact ⟨k + 1, sb, ys ++ [(i8s od, (lab : Int))], _, Ab, cb, _, xs ++ [⟨.slice Ax od.length cx, i8s od, lab⟩], by omega, by go_num, HP, HPN, Lib.hid ⟨by rw [List.map_append, hz.out.1]; rfl, by rw [List.length_append, hz.out.2.1]; rfl, HZ2.out, ZB.out, lb⟩⟩
            case measure => simp [intOf]; omega
      · obtain rfl : k = n6 := by omega
        have HZ : Hid (zf = ⟨0, s, ys⟩) := Lib.hid (by
          have h1 := hz.out.2.2.1
          rw [Nat.sub_self] at h1
          exact h1.symm)
        obtain ⟨er, her⟩ : ∃ o, endErr s.1 s.2 = o := ⟨_, rfl⟩
        have HE := Lib.hid (mend_any wr (w.heap.size + 1 + 1) A8 c8 s.1 s.2 hds.out.rd)
        rw [her] at HE
        have HDE : Hid (decEnd zf = er) := Lib.hid (by rw [HZ.out]; exact her)
        clear her hlt
        go_wp2_with fail
        refine HE.out.mono ?_
        rintro en wz ⟨rfl, hw⟩
        subst hw
        clear HE
        by_cases h4 : er = 0
        case neg =>
          have e4 : (er != 0) = true := by simpa using h4
          have HDEC : Hid (decode bs = (er, noneD, [])) := Lib.hid (by
            have := decode_end HBDF.out HZF.out (by rw [HDE.out]; exact h4)
            rwa [HDE.out] at this)
          clear h4
          have hkr := hds.out.res
          have hkn := hdn.out.res
          have hmr : w.heap.size < wr.heap.size := hkr.lt
          have hmn : w.heap.size + 1 < wr.heap.size := hkn.lt
          have m0 := hkr.cell 0
          have f0 := hkr.free 0
          have n0 := hkn.cell 0
          have m1 := hkr.cell 1
          have f1 := hkr.free 1
          have n1 := hkn.cell 1
          have m2 := hkr.cell 2
          have f2 := hkr.free 2
          have n2 := hkn.cell 2
          have m3 := hkr.cell 3
          have f3 := hkr.free 3
          have n3 := hkn.cell 3
          have m4 := hkr.cell 4
          have f4 := hkr.free 4
          have n4 := hkn.cell 4
          have m5 := hkr.cell 5
          have f5 := hkr.free 5
          have n5 := hkn.cell 5
          simp only [List.getElem?_cons_zero, List.getElem?_cons_succ] at m0 m1 m2 m3 m4 m5 n0 n1 n2 n3 n4 n5
          have HKR := Lib.hid hkr
          clear hkr hkn
          go_wp2_with fail
          have hq := six_ok HKR.out (.int .i64 0) (.int .i64 0) (.int .i64 0) (.int .i64 0) (.int .i64 0) (.slice none 0 0)
          unfold six at hq
          clear m0 m1 m2 m3 m4 m5 f0 f1 f2 f3 f4 f5 n0 n1 n2 n3 n4 n5 hmr hmn
          generalize ((((((wr.setCell ⟨w.heap.size, 0, none⟩ (.int .i64 0)).setCell ⟨w.heap.size, 1, none⟩ (.int .i64 0)).setCell ⟨w.heap.size, 2, none⟩ (.int .i64 0)).setCell ⟨w.heap.size, 3, none⟩ (.int .i64 0)).setCell ⟨w.heap.size, 4, none⟩ (.int .i64 0)).setCell ⟨w.heap.size, 5, none⟩ (.slice none 0 0)) = WF at hq ⊢
          obtain ⟨hqo, hqb⟩ := hq
          have n0 := hqb.cell 0
          have n1 := hqb.cell 1
          have n2 := hqb.cell 2
          have n3 := hqb.cell 3
          have n4 := hqb.cell 4
          have n5 := hqb.cell 5
          simp only [List.getElem?_cons_zero, List.getElem?_cons_succ] at n0 n1 n2 n3 n4 n5
          refine bodyPost_ret (v := .tuple #[.agg #[.int .i64 0, .int .i64 0, .int .i64 0, .int .i64 0, .int .i64 0, .slice none 0 0], .int .i64 er]) ?_ rfl ?_
          · simp [results, Try.results20, asAddr, Result.andThen, n0, n1, n2, n3, n4, n5, go_sem]
          · exact decOf_none (hds.out.bel.trans (hqo.below hds.out.bel.size (fun i hi => by omega))) HDEC.out
        have e4 : (er != 0) = false := by simp [h4]
        have HDEC : Hid (decode bs = (0, ⟨n1, n2, n3, x4, n5, .slice none 0 0, []⟩, ys)) := Lib.hid (by
          rw [decode_all HBDF.out HZF.out (by rw [HDE.out]; exact h4), HZ.out, HH.out])
        clear h4
        obtain ⟨Av, cv, hv8⟩ := own_form hds.out.own
        subst hv8
        have hkr := hds.out.res
        have hmr : w.heap.size < wr.heap.size := hkr.lt
        have hkq := hds.out.blk
        have hqx : q < wr.heap.size := hkq.lt
        have m0 := hkr.cell 0
        have f0 := hkr.free 0
        have g0 := hkq.cell 0
        have m1 := hkr.cell 1
        have f1 := hkr.free 1
        have g1 := hkq.cell 1
        have m2 := hkr.cell 2
        have f2 := hkr.free 2
        have g2 := hkq.cell 2
        have m3 := hkr.cell 3
        have f3 := hkr.free 3
        have g3 := hkq.cell 3
        have m4 := hkr.cell 4
        have f4 := hkr.free 4
        have g4 := hkq.cell 4
        have m5 := hkr.cell 5
        have f5 := hkr.free 5
        have g5 := hkq.cell 5
        simp only [List.cons_append, List.nil_append, List.getElem?_cons_zero, List.getElem?_cons_succ] at m0 m1 m2 m3 m4 m5 g0 g1 g2 g3 g4 g5
        have HKR := Lib.hid hkr
        have hrq := hds.out.ap.1
        clear hkr hkq
        go_wp2_with fail
        have hq := six_ok HKR.out (.int .i64 n1) (.int .i64 n2) (.int .i64 n3) (.int .i64 x4) (.int .i64 n5) (.slice Av xs.length cv)
        unfold six at hq
        generalize ((((((wr.setCell ⟨w.heap.size, 0, none⟩ (.int .i64 n1)).setCell ⟨w.heap.size, 1, none⟩ (.int .i64 n2)).setCell ⟨w.heap.size, 2, none⟩ (.int .i64 n3)).setCell ⟨w.heap.size, 3, none⟩ (.int .i64 x4)).setCell ⟨w.heap.size, 4, none⟩ (.int .i64 n5)).setCell ⟨w.heap.size, 5, none⟩ (.slice Av xs.length cv)) = W at hq ⊢
        obtain ⟨hqo, hqb⟩ := hq
        have p0 := hqb.cell 0
        have p1 := hqb.cell 1
        have p2 := hqb.cell 2
        have p3 := hqb.cell 3
        have p4 := hqb.cell 4
        have p5 := hqb.cell 5
        simp only [List.getElem?_cons_zero, List.getElem?_cons_succ] at p0 p1 p2 p3 p4 p5
        refine bodyPost_ret (v := .tuple #[.agg #[.int .i64 n1, .int .i64 n2, .int .i64 n3, .int .i64 x4, .int .i64 n5, .slice Av xs.length cv], .int .i64 0]) ?_ rfl ?_
        · simp [results, Try.results20, asAddr, Result.andThen, p0, p1, p2, p3, p4, p5, go_sem]
        · refine ⟨hds.out.bel.trans (hqo.below hds.out.bel.size (fun i hi => by omega)), xs, .slice Av xs.length cv, ?_, ?_, own_off hds.out.own hqo (fun k hk e => hds.out.vb.1 (by rw [hk, e])), fun e he => own_off (hds.out.exs e he).1 hqo (fun k hk => ((hds.out.exs e he).2 k hk).2.2.2.2)⟩
          · rw [HDEC.out]
          · rw [HDEC.out]; exact hz.out.1
end Go.Proofs.Ytfhlailhcfjjaaa
