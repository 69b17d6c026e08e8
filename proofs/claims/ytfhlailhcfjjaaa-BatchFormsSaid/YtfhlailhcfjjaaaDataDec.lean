/- Contract of dataset.Decode. -/
import Derived.Test.YtfhlailhcfjjaaaDataDecP
import Derived.Test.YtfhlailhcfjjaaaSlices
import Derived.Deep.DeepCutAuto
import Derived.Deep.LoopGhost
namespace Go.Proofs.Ytfhlailhcfjjaaa
open Go.RowKit
set_option linter.unusedVariables false
set_option linter.unusedSimpArgs false

theorem run_str_d {w : World} {B : Nat} {v : Value} {bs : List UInt8} (h : Reads w B v (bytesV bs)) : (convert 34 9 v).run Try.prog w = .ok (.string ⟨bs.toArray⟩) w :=
  run_string 34 9 5 Try.underlying34 Try.underlying5 Try.underlying9 h
theorem wrap64_i8 (n : Int) : wrap64 (IntKind.i8.wrap n) = IntKind.i8.wrap n := by
  have h : -128 ≤ IntKind.i8.wrap n ∧ IntKind.i8.wrap n ≤ 127 := by
    unfold IntKind.wrap
    simp only [IntKind.bits, IntKind.signed]
    simp
    omega
  unfold wrap64
  omega
theorem elem_i8d : ElemOf Try.prog 43 52 (.int .i8 0) 1 := ⟨Try.underlying43, by kernel_rfl, rfl⟩
theorem elem_ex : ElemN Try.prog 31 45 2 (.agg #[.slice none 0 0, .int .i64 0]) 32 := ⟨Try.underlying31, by kernel_rfl, rfl, by omega⟩
/-- six cells are put -/
def six (w : World) (r : Nat) (a b c d e f : Value) : World := (((((w.setCell ⟨r, 0, none⟩ a).setCell ⟨r, 1, none⟩ b).setCell ⟨r, 2, none⟩ c).setCell ⟨r, 3, none⟩ d).setCell ⟨r, 4, none⟩ e).setCell ⟨r, 5, none⟩ f
theorem six_ok {w : World} {r : Nat} {t : TypeId} {a' b' c' d' e' f' : Value} (h : Blk w r t [a', b', c', d', e', f']) (a b c d e f : Value) : Off (fun i => i = r) w (six w r a b c d e f) ∧ Blk (six w r a b c d e f) r t [a, b, c, d, e, f] := by
  unfold six
  refine ⟨((((((Off.refl (fun i => i = r) w).setCell (p := ⟨r, 0, none⟩) (.inl rfl) _).setCell (p := ⟨r, 1, none⟩) (.inl rfl) _).setCell (p := ⟨r, 2, none⟩) (.inl rfl) _).setCell (p := ⟨r, 3, none⟩) (.inl rfl) _).setCell (p := ⟨r, 4, none⟩) (.inl rfl) _).setCell (p := ⟨r, 5, none⟩) (.inl rfl) _, ?_⟩
  exact (((((h.put 0 a).put 1 b).put 2 c).put 3 d).put 4 e).put 5 f
/-- what Decode tells -/
def DecOf (w : World) (bs : List UInt8) (en : Ending) (w' : World) : Prop :=
  Below w.heap.size w w' ∧ ∃ (xs : List ExV) (v : Value), en = .returned (.tuple #[.agg #[.int .i64 (decode bs).2.1.a, .int .i64 (decode bs).2.1.b, .int .i64 (decode bs).2.1.c, .int .i64 (decode bs).2.1.exp, .int .i64 (decode bs).2.1.cl, v], .int .i64 (decode bs).1]) ∧
    xs.map (fun e => (e.data, e.label)) = (decode bs).2.2 ∧ w'.ownsRow w.heap.size 45 2 v xs.length (xs.flatMap ExV.cells) ∧ ∀ e ∈ xs, w'.ownsRow w.heap.size 52 1 e.dv e.data.length (ints .i8 e.data)
set_option maxRecDepth 100000 in
set_option maxHeartbeats 6400000 in
theorem ddec_any (v : Value) (bs : List UInt8) (w : World) (B : Nat) (hB : B ≤ w.heap.size) (h : Reads w B v (bytesV bs)) (hl : bs.length ≤ 140737488351232) : Calls Try.prog 19 #[v] w (DecOf w bs) := by
  obtain ⟨A0, c0, rfl, _, _⟩ := h.form
  rw [length_bytesV] at h
  have HI := Lib.hid (newreader_any (w.alloc (.cells #[.int .i64 0, .int .i64 0, .int .i64 0, .int .i64 0, .int .i64 0, .slice none 0 0] 33)) B _ bs (h.alloc hB _) (by simp; omega) (by omega))
  clear h
  rw [length_bytesV]
  go_enter Try.func19, Try.ntmps19
  go_wp2_with fail
  have hk0 := Blk.fresh w 33 [.int .i64 0, .int .i64 0, .int .i64 0, .int .i64 0, .int .i64 0, .slice none 0 0]
  have hb0 := one_alloc w (.cells #[.int .i64 0, .int .i64 0, .int .i64 0, .int .i64 0, .int .i64 0, .slice none 0 0] 33)
  refine HI.out.mono ?_
  rintro en w1 ⟨p, A, c, rfl, hrd, hp, hA, hb1⟩
  have HR := Lib.hid hrd
  have hsz := hb0.size
  have HB := Lib.hid (hb0.trans (hb1.mono hsz))
  have HK := Lib.hid (hk0.below hb1 hk0.lt)
  have hp' : w.heap.size + 1 ≤ p := by simpa using hp
  have HA := Lib.hid (show ∀ a, A = some a → w.heap.size + 1 ≤ a.block by simpa using hA.out)
  have HH := Lib.hid (show DecH w w1 w.heap.size p A c (bs, 0) from ⟨HB.out, hrd, HK.out, ⟨Nat.le_refl _, by omega⟩, by omega⟩)
  clear hk0 hb0 hrd hA hb1 HI hp HR HB HK HA
  go_wp2_with fail
  obtain ⟨out, hout⟩ : ∃ o, rdt (bs, 0) 4 = o := ⟨_, rfl⟩
  obtain ⟨s1, hs1⟩ : ∃ o, rds (bs, 0) 4 = o := ⟨_, rfl⟩
  have HT := Lib.hid (rraw_any w1 p A c bs 0 4 HH.out.rd (by omega))
  rw [show takeOut bs 0 4 = out from hout, show takeLeft bs 0 4 = s1.1 by rw [← hs1]; rfl, show takeErr bs 0 4 = s1.2 by rw [← hs1]; rfl] at HT
  have l1 : s1.1.length ≤ 140737488351232 := by rw [← hs1]; exact Nat.le_trans (rds_len _ _) hl
  refine HT.out.mono ?_
  rintro en w2 ⟨A', c', A1, c1, rfl, hown, hrd, hA, ho⟩
  have HH1 := Lib.hid (HH.out.read (s' := s1) hrd ho)
  have hr := Reads.of_own hown
  have kS := run_str_d hr
  have hlo : out.length ≤ 4 := by
    have := takeOut_len bs 0 4
    rw [← hout]
    exact this
  have HO := Lib.hid hout
  have HS1 := Lib.hid hs1
  clear hown hrd hA ho HT HH hr hout hs1
  have hbad : badBegin bs = (decide (out.length = 4) && (out != beginB)) := by
    unfold badBegin
    rw [HO.out]
    congr 1
  have HBAD := Lib.hid hbad
  clear hbad
  go_upto_region 3 with fail
  go_cut [24] (fun s wx => s = .bool (decide (out.length = 4) && (out != beginB)) ∧ wx = w2)
  case first =>
    cases c1 : decide (out.length = 4) with
    | true =>
      have hc1 : out.length = 4 := by simpa using c1
      have e1 : ((out.length : Int) == 4) = true := by simp; omega
      have E1 := Lib.hid c1
      clear hc1 hlo c1
      cases c2 : (out == beginB) with
      | false =>
        have e2 : (out == [112, 100, 100, 115]) = false := c2
        have e3 : (out != beginB) = true := by rw [show (out != beginB) = !(out == beginB) from rfl, c2]; rfl
        have E3 := Lib.hid e3
        clear c2 e3
        go_wp2_with fail
        go_meet
        case rel => exact ⟨by rw [E1.out, E3.out]; rfl, rfl⟩
      | true =>
        have e2 : (out == [112, 100, 100, 115]) = true := c2
        have e3 : (out != beginB) = false := by rw [show (out != beginB) = !(out == beginB) from rfl, c2]; rfl
        have E3 := Lib.hid e3
        clear c2 e3
        go_wp2_with fail
        go_meet
        case rel => exact ⟨by rw [E1.out, E3.out]; rfl, rfl⟩
    | false =>
      have hc1 : ¬ out.length = 4 := by simpa using c1
      have e1 : ((out.length : Int) == 4) = false := by simp; omega
      have E1 := Lib.hid c1
      clear hc1 hlo c1
      go_wp2_with fail
      go_meet
      case rel => exact ⟨by rw [E1.out]; rfl, rfl⟩
  case rest =>
    obtain ⟨hs24, hw⟩ := hcut
    have hw := hw.symm
    subst hw
    rw [← HBAD.out] at hs24
    subst hs24
    clear kS hlo HO
    cases hb : badBegin bs with
    | true =>
      have hkr := HH1.out.res
      have hmr : w.heap.size < w2.heap.size := hkr.lt
      have m0 := hkr.cell 0
      have m1 := hkr.cell 1
      have m2 := hkr.cell 2
      have m3 := hkr.cell 3
      have m4 := hkr.cell 4
      have m5 := hkr.cell 5
      have f0 := hkr.free 0
      have f1 := hkr.free 1
      have f2 := hkr.free 2
      have f3 := hkr.free 3
      have f4 := hkr.free 4
      have f5 := hkr.free 5
      simp only [List.getElem?_cons_zero, List.getElem?_cons_succ] at m0 m1 m2 m3 m4 m5
      have HKR := Lib.hid hkr
      have HBD := Lib.hid hb
      clear hkr hb
      go_wp2_with fail
      have hq := six_ok HKR.out (.int .i64 0) (.int .i64 0) (.int .i64 0) (.int .i64 0) (.int .i64 0) (.slice none 0 0)
      unfold six at hq
      clear m0 m1 m2 m3 m4 m5 f0 f1 f2 f3 f4 f5 hmr
      generalize ((((((w2.setCell ⟨w.heap.size, 0, none⟩ (.int .i64 0)).setCell ⟨w.heap.size, 1, none⟩ (.int .i64 0)).setCell ⟨w.heap.size, 2, none⟩ (.int .i64 0)).setCell ⟨w.heap.size, 3, none⟩ (.int .i64 0)).setCell ⟨w.heap.size, 4, none⟩ (.int .i64 0)).setCell ⟨w.heap.size, 5, none⟩ (.slice none 0 0)) = W at hq ⊢
      obtain ⟨hqo, hqb⟩ := hq
      have n0 := hqb.cell 0
      have n1 := hqb.cell 1
      have n2 := hqb.cell 2
      have n3 := hqb.cell 3
      have n4 := hqb.cell 4
      have n5 := hqb.cell 5
      simp only [List.getElem?_cons_zero, List.getElem?_cons_succ] at n0 n1 n2 n3 n4 n5
      refine bodyPost_ret (v := .tuple #[.agg #[.int .i64 0, .int .i64 0, .int .i64 0, .int .i64 0, .int .i64 0, .slice none 0 0], .int .i64 5]) ?_ rfl ?_
      · simp [results, Try.results19, asAddr, Result.andThen, n0, n1, n2, n3, n4, n5, go_sem]
      · refine ⟨HH1.out.bel.trans (hqo.below HH1.out.bel.size (fun i hi => by omega)), [], .slice none 0 0, ?_, ?_, World.ownsRow_nil _ _ _ _, fun e he => absurd he (by simp)⟩
        · unfold decode
          rw [if_pos HBD.out]
        · unfold decode
          rw [if_pos HBD.out]
          rfl
    | false =>
      have HBDF := Lib.hid hb
      go_wp2_with fail
      obtain ⟨s2, hs⟩ : ∃ o, rds s1 1 = o := ⟨_, rfl⟩
      obtain ⟨n1, hn⟩ : ∃ o : Nat, deB (rdt s1 1) = o := ⟨_, rfl⟩
      have HT := Lib.hid (ru8_any w2 p A1 c1 s1.1 s1.2 HH1.out.rd (by omega))
      rw [show deB (takeOut s1.1 s1.2 1) = n1 from hn, show takeLeft s1.1 s1.2 1 = s2.1 by rw [← hs]; rfl, show takeErr s1.1 s1.2 1 = s2.2 by rw [← hs]; rfl] at HT
      have l2 : s2.1.length ≤ 140737488351232 := by rw [← hs]; exact Nat.le_trans (rds_len _ _) l1
      have b1 : n1 < 256 := by rw [← hn]; exact deB_u8 _ _
      refine HT.out.mono ?_
      rintro en w3 ⟨rfl, A2, c2, hrd, hA, ho⟩
      have HH2 := Lib.hid (HH1.out.read (s' := s2) hrd ho)
      have HN1 := Lib.hid hn
      have HS2 := Lib.hid hs
      clear hrd hA ho HT HH1 hn hs
      go_wp2_with fail
      obtain ⟨s3, hs⟩ : ∃ o, rds s2 1 = o := ⟨_, rfl⟩
      obtain ⟨n2, hn⟩ : ∃ o : Nat, deB (rdt s2 1) = o := ⟨_, rfl⟩
      have HT := Lib.hid (ru8_any w3 p A2 c2 s2.1 s2.2 HH2.out.rd (by omega))
      rw [show deB (takeOut s2.1 s2.2 1) = n2 from hn, show takeLeft s2.1 s2.2 1 = s3.1 by rw [← hs]; rfl, show takeErr s2.1 s2.2 1 = s3.2 by rw [← hs]; rfl] at HT
      have l3 : s3.1.length ≤ 140737488351232 := by rw [← hs]; exact Nat.le_trans (rds_len _ _) l2
      have b2 : n2 < 256 := by rw [← hn]; exact deB_u8 _ _
      refine HT.out.mono ?_
      rintro en w4 ⟨rfl, A3, c3, hrd, hA, ho⟩
      have HH3 := Lib.hid (HH2.out.read (s' := s3) hrd ho)
      have HN2 := Lib.hid hn
      have HS3 := Lib.hid hs
      clear hrd hA ho HT HH2 hn hs
      go_wp2_with fail
      obtain ⟨s4, hs⟩ : ∃ o, rds s3 1 = o := ⟨_, rfl⟩
      obtain ⟨n3, hn⟩ : ∃ o : Nat, deB (rdt s3 1) = o := ⟨_, rfl⟩
      have HT := Lib.hid (ru8_any w4 p A3 c3 s3.1 s3.2 HH3.out.rd (by omega))
      rw [show deB (takeOut s3.1 s3.2 1) = n3 from hn, show takeLeft s3.1 s3.2 1 = s4.1 by rw [← hs]; rfl, show takeErr s3.1 s3.2 1 = s4.2 by rw [← hs]; rfl] at HT
      have l4 : s4.1.length ≤ 140737488351232 := by rw [← hs]; exact Nat.le_trans (rds_len _ _) l3
      have b3 : n3 < 256 := by rw [← hn]; exact deB_u8 _ _
      refine HT.out.mono ?_
      rintro en w5 ⟨rfl, A4, c4, hrd, hA, ho⟩
      have HH4 := Lib.hid (HH3.out.read (s' := s4) hrd ho)
      have HN3 := Lib.hid hn
      have HS4 := Lib.hid hs
      clear hrd hA ho HT HH3 hn hs
      go_wp2_with fail
      obtain ⟨s5, hs⟩ : ∃ o, rds s4 1 = o := ⟨_, rfl⟩
      obtain ⟨n4, hn⟩ : ∃ o : Nat, deB (rdt s4 1) = o := ⟨_, rfl⟩
      have HT := Lib.hid (ru8_any w5 p A4 c4 s4.1 s4.2 HH4.out.rd (by omega))
      rw [show deB (takeOut s4.1 s4.2 1) = n4 from hn, show takeLeft s4.1 s4.2 1 = s5.1 by rw [← hs]; rfl, show takeErr s4.1 s4.2 1 = s5.2 by rw [← hs]; rfl] at HT
      have l5 : s5.1.length ≤ 140737488351232 := by rw [← hs]; exact Nat.le_trans (rds_len _ _) l4
      have b4 : n4 < 256 := by rw [← hn]; exact deB_u8 _ _
      refine HT.out.mono ?_
      rintro en w6 ⟨rfl, A5, c5, hrd, hA, ho⟩
      have HH5 := Lib.hid (HH4.out.read (s' := s5) hrd ho)
      have HN4 := Lib.hid hn
      have HS5 := Lib.hid hs
      clear hrd hA ho HT HH4 hn hs
      go_wp2_with fail
      obtain ⟨s6, hs⟩ : ∃ o, rds s5 1 = o := ⟨_, rfl⟩
      obtain ⟨n5, hn⟩ : ∃ o : Nat, deB (rdt s5 1) = o := ⟨_, rfl⟩
      have HT := Lib.hid (ru8_any w6 p A5 c5 s5.1 s5.2 HH5.out.rd (by omega))
      rw [show deB (takeOut s5.1 s5.2 1) = n5 from hn, show takeLeft s5.1 s5.2 1 = s6.1 by rw [← hs]; rfl, show takeErr s5.1 s5.2 1 = s6.2 by rw [← hs]; rfl] at HT
      have l6 : s6.1.length ≤ 140737488351232 := by rw [← hs]; exact Nat.le_trans (rds_len _ _) l5
      have b5 : n5 < 256 := by rw [← hn]; exact deB_u8 _ _
      refine HT.out.mono ?_
      rintro en w7 ⟨rfl, A6, c6, hrd, hA, ho⟩
      have HH6 := Lib.hid (HH5.out.read (s' := s6) hrd ho)
      have HN5 := Lib.hid hn
      have HS6 := Lib.hid hs
      clear hrd hA ho HT HH5 hn hs
      go_wp2_with fail
      have hx4 : wrap64 (IntKind.i8.wrap (n4 : Int)) = IntKind.i8.wrap (n4 : Int) := by
        exact wrap64_i8 _
      rw [hx4]
      clear hx4
      obtain ⟨x4, hx⟩ : ∃ o, IntKind.i8.wrap (n4 : Int) = o := ⟨_, rfl⟩
      rw [hx]
      have HX := Lib.hid hx
      clear hx
      have HS := Lib.hid (HH6.out.start [.int .i64 n1, .int .i64 n2, .int .i64 n3, .int .i64 x4, .int .i64 n5] #[.int .i64 n1, .int .i64 n2, .int .i64 n3, .int .i64 x4, .int .i64 n5, .slice none 0 0] rfl)
      generalize (w7.alloc (.cells #[.int .i64 n1, .int .i64 n2, .int .i64 n3, .int .i64 x4, .int .i64 n5, .slice none 0 0] 33)) = w8 at HS ⊢
      generalize w7.heap.size = q at HS ⊢
      clear HH6
      obtain ⟨s7, hs⟩ : ∃ o, rds s6 2 = o := ⟨_, rfl⟩
      obtain ⟨n6, hn⟩ : ∃ o : Nat, deB (rdt s6 2) = o := ⟨_, rfl⟩
      have HT := Lib.hid (ru16_any w8 p A6 c6 s6.1 s6.2 HS.out.rd (by omega))
      rw [show deB (takeOut s6.1 s6.2 2) = n6 from hn, show takeLeft s6.1 s6.2 2 = s7.1 by rw [← hs]; rfl, show takeErr s6.1 s6.2 2 = s7.2 by rw [← hs]; rfl] at HT
      have l7' : s7.1.length ≤ s6.1.length := by rw [← hs]; exact rds_len _ _
      have b6 : n6 < 65536 := by
        rw [← hn]
        exact deB_256 s6.1 s6.2 2
      refine HT.out.mono ?_
      rintro en w9 ⟨rfl, A7, c7, hrd, hA, ho⟩
      have HS' := Lib.hid (HS.out.read (s' := s7) hrd hA ho l7')
      have HN6 := Lib.hid hn
      have HS7 := Lib.hid hs
      have l7 : s7.1.length ≤ 140737488351232 := by omega
      clear hrd hA ho HT HS hn hs l7'
      have HH : Hid (decHead bs = (⟨n1, n2, n3, x4, n5, .slice none 0 0, []⟩, (n6 : Int), s7)) := Lib.hid (by
        unfold decHead
        simp only [HS1.out, HN1.out, HS2.out, HN2.out, HS3.out, HN3.out, HS4.out, HN4.out, HS5.out, HN5.out, HS6.out, HN6.out, HS7.out, HX.out])
      clear HS1 HN1 HS2 HN2 HS3 HN3 HS4 HN4 HS5 HN5 HS6 HN6 HS7 HX
      go_wp2_with fail
      obtain ⟨er, her⟩ : ∃ o, endErr s7.1 s7.2 = o := ⟨_, rfl⟩
      have HE := Lib.hid (end_any w9 p A7 c7 s7.1 s7.2 HS'.out.rd)
      rw [her] at HE
      refine HE.out.mono ?_
      rintro en w10 ⟨rfl, hw⟩
      subst hw
      have HER := Lib.hid her
      clear her HE l1 l2 l3 l4 l5 l6 b1 b2 b3 b4
      go_upto_region 8 with fail
      go_cut [49] (fun s wx => s = .bool (er == 0 || er == 5) ∧ wx = w9)
      case first =>
        cases e1 : (er == 0) with
        | true =>
          have E1 := Lib.hid e1
          go_wp2_with fail
          go_meet
          case rel => exact ⟨by rw [E1.out]; rfl, rfl⟩
        | false =>
          have E1 := Lib.hid e1
          cases e2 : (er == 5) with
          | true =>
            have E2 := Lib.hid e2
            go_wp2_with fail
            go_meet
            case rel => exact ⟨by rw [E1.out, E2.out]; rfl, rfl⟩
          | false =>
            have E2 := Lib.hid e2
            go_wp2_with fail
            go_meet
            case rel => exact ⟨by rw [E1.out, E2.out]; rfl, rfl⟩
      case rest =>
        obtain ⟨hs49, hw⟩ := hcut
        have hw := hw.symm
        subst hw
        subst hs49
        go_upto_if 49 with fail
        go_cut [8] (fun s wx => s = .int .i64 (decE (⟨n1, n2, n3, x4, n5, .slice none 0 0, []⟩, (n6 : Int), s7)) ∧ Hid (DecS w wx (q + 1) w.heap.size q p A7 c7 s7 [.int .i64 n1, .int .i64 n2, .int .i64 n3, .int .i64 x4, .int .i64 n5] (.slice none 0 0) []))
        case first =>
          have HDE : Hid (decE (⟨n1, n2, n3, x4, n5, .slice none 0 0, []⟩, (n6 : Int), s7) = if (er == 0 || er == 5) = true then (if headI ⟨n1, n2, n3, x4, n5, .slice none 0 0, []⟩ n6 = true then 0 else 5) else er) := Lib.hid (by
            unfold decE
            simp only [HER.out, Bool.or_eq_true, beq_iff_eq])
          cases e1 : (er == 0 || er == 5) with
          | false =>
            rw [e1] at HDE
            go_wp2_with fail
            go_meet
            case rel => exact ⟨by rw [HDE.out]; rfl, HS'⟩
          | true =>
            rw [e1] at HDE
            obtain ⟨r, hr⟩ : ∃ o, headI ⟨n1, n2, n3, x4, n5, .slice none 0 0, []⟩ n6 = o := ⟨_, rfl⟩
            rw [hr] at HDE
            have HHD := Lib.hid (dhead_any n1 n2 n3 x4 n5 none 0 0 [] n6 r hr w9)
            have hkq := HS'.out.blk
            have hq9 : q < w9.heap.size := hkq.lt
            have m0 := hkq.cell 0
            have m1 := hkq.cell 1
            have m2 := hkq.cell 2
            have m3 := hkq.cell 3
            have m4 := hkq.cell 4
            have m5 := hkq.cell 5
            simp only [List.cons_append, List.nil_append, List.getElem?_cons_zero, List.getElem?_cons_succ] at m0 m1 m2 m3 m4 m5
            clear hkq hr
            go_wp2_with fail
            refine HHD.out.mono ?_
            rintro en w11 ⟨rfl, hb⟩
            have HS2 := Lib.hid (HS'.out.below hb)
            clear hb HHD m0 m1 m2 m3 m4 m5 hq9
            cases r with
            | true =>
              go_wp2_with fail
              go_meet
              case rel => exact ⟨by rw [HDE.out]; rfl, HS2⟩
            | false =>
              go_wp2_with fail
              go_meet
              case rel => exact ⟨by rw [HDE.out]; rfl, HS2⟩
        case rest =>
          obtain ⟨rfl, HS2⟩ := hcut
          clear HS' HER
          obtain ⟨e0, he0⟩ : ∃ o, decE (⟨n1, n2, n3, x4, n5, .slice none 0 0, []⟩, (n6 : Int), s7) = o := ⟨_, rfl⟩
          obtain ⟨zf, hzf⟩ : ∃ o, decZ (decHead bs) = o := ⟨_, rfl⟩
          have HZ0 : Hid (decRun ⟨n1, n2, n3, x4, n5, .slice none 0 0, []⟩ n6 ⟨e0, s7, []⟩ = zf) := Lib.hid (by
            rw [← hzf, HH.out]
            unfold decZ
            rw [he0]
            rfl)
          have HE0 : Hid (e0 = 0 → headI ⟨n1, n2, n3, x4, n5, .slice none 0 0, []⟩ n6 = true) := Lib.hid (fun h => decE_zero (he0.trans h))
          have HZF := Lib.hid hzf
          rw [he0]
          clear he0 hzf
          go_wp2_with fail
          go_loopw [8, 9] (fun e i wr => ∃ (k : Nat) (z : DSt) (G : Nat) (A : Option Addr) (c : Nat) (v : Value) (xs : List ExV), k ≤ n6 ∧ e = .int .i64 z.e ∧ i = .int .i64 k ∧ Hid (DecS w wr G w.heap.size q p A c z.s [.int .i64 n1, .int .i64 n2, .int .i64 n3, .int .i64 x4, .int .i64 n5] v xs) ∧ Hid (xs.map (fun e => (e.data, e.label)) = z.xs ∧ xs.length = k ∧ decRun ⟨n1, n2, n3, x4, n5, .slice none 0 0, []⟩ (n6 - k) z = zf ∧ (z.e = 0 → headI ⟨n1, n2, n3, x4, n5, .slice none 0 0, []⟩ n6 = true) ∧ z.s.1.length ≤ 140737488351232)) (fun _ i _ => n6 - (intOf i).toNat)
          case atStart => exact ⟨0, ⟨e0, s7, []⟩, q + 1, A7, c7, .slice none 0 0, [], by omega, rfl, rfl, HS2, Lib.hid ⟨rfl, rfl, HZ0.out, HE0.out, l7⟩⟩
          case round =>
            obtain ⟨k, z, G, A8, c8, v8, xs, hk, rfl, rfl, hds, hz⟩ := hrel
            clear HS2 HZ0 HE0
            by_cases he : z.e = 0
            · by_cases hlt : k < n6
              · have t1 : (z.e == 0) = true := by simpa using he
                have t2 : decide ((k : Int) < (n6 : Int)) = true := by simp; omega
                have HZE := Lib.hid he
                clear he
                obtain ⟨sa, hs⟩ : ∃ o, rds z.s 1 = o := ⟨_, rfl⟩
                obtain ⟨lab, hn⟩ : ∃ o : Nat, deB (rdt z.s 1) = o := ⟨_, rfl⟩
                have HT := Lib.hid (ru8_any wr p A8 c8 z.s.1 z.s.2 hds.out.rd (by have := hz.out.2.2.2.2; omega))
                rw [show deB (takeOut z.s.1 z.s.2 1) = lab from hn, show takeLeft z.s.1 z.s.2 1 = sa.1 by rw [← hs]; rfl, show takeErr z.s.1 z.s.2 1 = sa.2 by rw [← hs]; rfl] at HT
                have la' : sa.1.length ≤ z.s.1.length := by rw [← hs]; exact rds_len _ _
                have la : sa.1.length ≤ 140737488351232 := by have := hz.out.2.2.2.2; omega
                have HLAB := Lib.hid hn
                have HSA := Lib.hid hs
                clear hn hs
                go_wp2_with fail
                refine HT.out.mono ?_
                rintro en wa ⟨rfl, Aa, ca, hrd, hA, ho⟩
                have HSa := Lib.hid (hds.out.read (s' := sa) hrd hA ho la')
                obtain ⟨Av, cv, hv8⟩ := own_form HSa.out.own
                subst hv8
                clear hrd hA ho HT hds la'
                have hkq := HSa.out.blk.alloc (.cells #[.slice none 0 0, .int .i64 lab] 45)
                have hqa : q < wa.heap.size := HSa.out.blk.lt
                have m0 := hkq.cell 0
                have m1 := hkq.cell 1
                have m2 := hkq.cell 2
                have m3 := hkq.cell 3
                have m4 := hkq.cell 4
                have m5 := hkq.cell 5
                simp only [List.cons_append, List.nil_append, List.getElem?_cons_zero, List.getElem?_cons_succ] at m0 m1 m2 m3 m4 m5
                clear hkq
                have hhd := hz.out.2.2.2.1 HZE.out
                have hsz1 := sizeD_in hhd
                have hsz2 := headI_of hhd
                simp only [sizeD] at hsz1 hsz2
                have HSZ := Lib.hid hsz1
                have HS2' := Lib.hid hsz2
                clear hhd hsz1 hsz2
                go_wp2_with fail
                refine (dsize_any n1 n2 n3 x4 n5 _ Av xs.length cv rfl (wa.alloc (.cells #[.slice none 0 0, .int .i64 lab] 45)) (by have := HSZ.out; omega) (by have := HSZ.out; omega)).mono ?_
                rintro en wb ⟨rfl, hb⟩
                have hga := HSa.out.hi.2.2.2.1
                have hpg := HSa.out.hi.2.2.1
                have hb0 := one_alloc wa (.cells #[.slice none 0 0, .int .i64 lab] 45)
                have HSb := Lib.hid (((HSa.out.more (G' := wa.heap.size) hga (Nat.le_refl _)).alloc (.cells #[.slice none 0 0, .int .i64 lab] 45)).below hb)
                have HKb := Lib.hid ((Blk.fresh wa 45 [.slice none 0 0, .int .i64 lab]).below hb (by simp))
                have hgb : wa.heap.size < wb.heap.size := HKb.out.lt
                generalize hgw : wa.heap.size = g at HSb HKb hgb ⊢
                have hpg' : p < g := by omega
                clear hb hb0 HSa m0 m1 m2 m3 m4 m5 hqa hga hpg hgw
                obtain ⟨sb, hs⟩ : ∃ o, rds sa (sizeD ⟨n1, n2, n3, x4, n5, .slice none 0 0, []⟩) = o := ⟨_, rfl⟩
                obtain ⟨od, hn⟩ : ∃ o, rdt sa (sizeD ⟨n1, n2, n3, x4, n5, .slice none 0 0, []⟩) = o := ⟨_, rfl⟩
                have HT := Lib.hid (rraw_any wb p Aa ca sa.1 sa.2 (n1 * n2 * n3) HSb.out.rd (by omega))
                rw [show takeOut sa.1 sa.2 (n1 * n2 * n3) = od from hn, show takeLeft sa.1 sa.2 (n1 * n2 * n3) = sb.1 by rw [← hs]; rfl, show takeErr sa.1 sa.2 (n1 * n2 * n3) = sb.2 by rw [← hs]; rfl] at HT
                have lb' : sb.1.length ≤ sa.1.length := by rw [← hs]; exact rds_len _ _
                have lb : sb.1.length ≤ 140737488351232 := by omega
                have HOD := Lib.hid hn
                have HSB := Lib.hid hs
                have lod : od.length ≤ 2048 := by
                  obtain ⟨nn, hnn⟩ := Int.eq_ofNat_of_zero_le (a := (n1 : Int) * n2 * n3) (by have := HSZ.out; omega)
                  have h1 := takeOut_len sa.1 sa.2 nn
                  rw [← hnn] at h1
                  rw [show takeOut sa.1 sa.2 (n1 * n2 * n3) = od from hn] at h1
                  have := HSZ.out
                  omega
                clear hn hs
                go_wp2_with fail
                refine HT.out.mono ?_
                rintro en wd ⟨Ao, co, Ab, cb, rfl, hown, hrd, hA, ho⟩
                have HSd := Lib.hid (HSb.out.read (s' := sb) hrd hA ho lb')
                have HKd := Lib.hid (HKb.out.off ho (by omega))
                have HOW := Lib.hid (own_lower hown (show g + 1 ≤ wb.heap.size by omega))
                have hgd : g < wd.heap.size := HKd.out.lt
                clear hown hrd hA ho HT HSb HKb lb' la hgb
                go_wp2_with fail
                go_loopw [71] (fun i wr => ∃ (m : Nat) (dv : Value), m ≤ od.length ∧ i = .int .i64 m ∧ Hid (Off (fun j => j = g) wd wr) ∧ Hid (Blk wr g 45 [dv, .int .i64 lab]) ∧ Hid (wr.ownsRow wd.heap.size 52 1 dv m (ints .i8 (i8s (od.take m))))) (fun i _ => od.length - (intOf i).toNat)
                case atStart => exact ⟨0, .slice none 0 0, by omega, rfl, Lib.hid (Off.refl _ _), HKd, Lib.hid (World.ownsRow_nil _ _ _ _)⟩
                case round =>
                  obtain ⟨m, dv, hm, rfl, hof, hkg, hod⟩ := hrel
                  by_cases hlt2 : m < od.length
                  · have hrd := Reads.of_own (own_off HOW.out hof.out (fun k hk => by have := (HOW.out.lt k hk).1; omega))
                    obtain ⟨A7, n7, c7', e7, l7, f7, m7, at7⟩ := hrd
                    injection e7 with e7 e8 e9
                    subst e7 e8 e9
                    obtain ⟨g7, o7, hA7, hg7, hx7⟩ := at7.out (by omega)
                    subst hA7
                    have k7 := hx7 m _ (bytesV_at od m hlt2)
                    have HNX : Hid (i8s (od.take (m + 1)) = i8s (od.take m) ++ [IntKind.i8.wrap (od[m].toNat : Int)]) := Lib.hid (by
                      unfold i8s
                      rw [List.take_add_one, List.getElem?_eq_getElem hlt2, List.map_append]
                      rfl)
                    generalize od[m] = y at k7 HNX
                    have kb := hkg.out.cell 0
                    have fb := hkg.out.free 0
                    have hgw := hkg.out.lt
                    simp only [List.getElem?_cons_zero, List.getElem?_cons_succ] at kb
                    have i7 : (0 : Int) ≤ (m : Int) := by omega
                    have j7 : (m : Int) < (od.length : Int) := by omega
                    have hne : some g ≠ dv.ownBlock := fun e => by have := (hod.out.lt g e.symm).1; omega
                    have hwd : wd.heap.size ≤ wr.heap.size := hof.out.size
                    clear at7 hx7 l7 f7 m7
                    go_wp2_with (at_builtin; refine wpList_extend elem_i8d _ rfl (.tmp 76) (.tmp 79) rfl wd.heap.size m _ (ints .i8 (i8s (od.take m))) rfl (hod.out.alloc _) _ _ [_] rfl (Reads.one_ wr _ _) (by simp [Value.oneCell']) (by simp only [List.length_cons, List.length_nil, maxLen]; omega) (by simp only [List.length_cons, List.length_nil]; omega) (by simp; omega) ?_; intro A9 c9 w9' hown9 hgrow9 hfr9; have hbk := (hkg.out.alloc _).grown hgrow9 hne; have kb := hbk.cell 0; have fb := hbk.free 0; have hgw := hbk.lt; simp only [List.getElem?_cons_zero, List.getElem?_cons_succ] at kb)
                    have HF := Lib.hid (((hof.out.alloc (.cells #[.int .i8 (IntKind.i8.wrap (y.toNat : Int))] 52)).grown hgrow9 (fun k hk => .inr (hod.out.lt k hk).1)).setCell (p := ⟨g, 0, none⟩) (.inl rfl) (.slice A9 (m + 1) c9))
                    have HB9 := Lib.hid (hbk.put 0 (.slice A9 (m + 1) c9))
                    have hown9' := own_off hown9 ((Off.refl (fun j => j = g) w9').setCell (p := ⟨g, 0, none⟩) (.inl rfl) (.slice A9 (m + 1) c9)) (fun k hk => by have := (hown9.lt k hk).1; omega)
                    have HO9 : Hid ((w9'.setCell ⟨g, 0, none⟩ (.slice A9 (m + 1) c9)).ownsRow wd.heap.size 52 1 (.slice A9 (m + 1) c9) (m + 1) (ints .i8 (i8s (od.take (m + 1))))) := Lib.hid (by
                      rw [HNX.out, show ints IntKind.i8 (i8s (List.take m od) ++ [IntKind.i8.wrap (y.toNat : Int)]) = ints IntKind.i8 (i8s (List.take m od)) ++ [.int .i8 (IntKind.i8.wrap (y.toNat : Int))] by simp [ints]]
                      exact hown9')
                    clear hown9 hown9' hgrow9 hfr9 hbk kb fb hgw hof hkg hod hne hwd
                    go_wp2
                    go_roundw
                    case rel => exact ⟨m + 1, .slice A9 (m + 1) c9, by omega, by go_num, HF, HB9, HO9⟩
                    case measure => simp [intOf]; omega
                  · obtain rfl : m = od.length := by omega
                    obtain ⟨Ax, cx, hdv⟩ := own_form hod.out
                    subst hdv
                    rw [List.take_length] at hod
                    have HSx := Lib.hid (HSd.out.aside hof.out (fun i hi => by omega))
                    have hxk : xs.length < 65536 := by have := hz.out.2.1; omega
                    have HLEN : Hid ((i8s od).length = od.length) := Lib.hid (by simp [i8s])
                    have HOx := Lib.hid (own_lower hod.out HSd.out.bel.size)
                    have HOX : Hid (∀ k, (Value.slice Ax od.length cx).ownBlock = some k → wd.heap.size ≤ k) := Lib.hid (fun k hk => (hod.out.lt k hk).1)
                    have HRD := Lib.hid (Reads.of_own hod.out)
                    obtain ⟨er4, her⟩ : ∃ o, endErr sb.1 sb.2 = o := ⟨_, rfl⟩
                    obtain ⟨r1, hr1⟩ : ∃ o, oneI ⟨n1, n2, n3, x4, n5, .slice none 0 0, []⟩ (exV (i8s od, (lab : Int))) = o := ⟨_, rfl⟩
                    have HST : Hid (decStep ⟨n1, n2, n3, x4, n5, .slice none 0 0, []⟩ z = ⟨if er4 = 4 then 4 else if r1 = true then z.e else 5, sb, z.xs ++ [(i8s od, (lab : Int))]⟩) := Lib.hid (by
                      unfold decStep
                      simp only [HSA.out, HLAB.out, HOD.out, HSB.out, her, hr1])
                    have HE := Lib.hid (end_any wr p Ab cb sb.1 sb.2 HSx.out.rd)
                    rw [her] at HE
                    have HON := Lib.hid (done_any n1 n2 n3 x4 n5 Av xs.length cv [] Ax cx (i8s od) lab wr wr.heap.size (Nat.le_refl _) (by rw [HLEN.out]; exact HRD.out) (by rw [HLEN.out]; omega) HSZ.out.2.2 ⟨HSZ.out.1, HSZ.out.2.1⟩ HS2'.out.2.2.2.2.1 r1 (by rw [← hr1]; exact oneI_form _ _ _ _ rfl rfl rfl rfl rfl rfl))
                    rw [HLEN.out] at HON
                    have hkq := HSx.out.blk
                    have hqx : q < wr.heap.size := hkq.lt
                    have m0 := hkq.cell 0
                    have m1 := hkq.cell 1
                    have m2 := hkq.cell 2
                    have m3 := hkq.cell 3
                    have m4 := hkq.cell 4
                    have m5 := hkq.cell 5
                    simp only [List.cons_append, List.nil_append, List.getElem?_cons_zero, List.getElem?_cons_succ] at m0 m1 m2 m3 m4 m5
                    have kb0 := hkg.out.cell 0
                    have kb1 := hkg.out.cell 1
                    have hgx := hkg.out.lt
                    simp only [List.getElem?_cons_zero, List.getElem?_cons_succ] at kb0 kb1
                    have HKG := Lib.hid hkg.out
                    clear hkq her hr1 hof hod hkg HRD
                    go_wp2_with fail
                    refine HE.out.mono ?_
                    rintro en wz ⟨rfl, hw⟩
                    subst hw
                    clear HE
                    cases e4 : (er4 == 4) with
                    | true =>
                      have h4 : er4 = 4 := by simpa using e4
                      rw [h4, if_pos rfl] at HST
                      clear h4
                      go_wp2_with (at_builtin; refine wpList_extendN elem_ex _ rfl (.tmp 91) (.tmp 93) rfl w.heap.size xs.length _ (xs.flatMap ExV.cells) rfl (HSx.out.alloc (.cells #[.slice Ax od.length cx, .int .i64 lab] 45)).own _ 1 _ [.slice Ax od.length cx, .int .i64 lab] rfl ((Blk.fresh wr 45 [.slice Ax od.length cx, .int .i64 lab]).readsN (n := 1) rfl (by decide)) rfl (by simp [Value.oneCell']) (by unfold maxLen; omega) (by omega) (by have := HSx.out.bel.size; simp; omega) ?_; intro A9 c9 w9' hown9 hgrow9 hfr9; have hbq := (HSx.out.blk.alloc (.cells #[.slice Ax od.length cx, .int .i64 lab] 45)).grown hgrow9 (Ne.symm HSx.out.vb.2.1); have fq := hbq.free 5; have mq := hbq.cell 5; have lq := hbq.lt; simp only [List.cons_append, List.nil_append, List.getElem?_cons_zero, List.getElem?_cons_succ] at mq)
                      have HP := Lib.hid ((HSx.out.alloc (.cells #[.slice Ax od.length cx, .int .i64 lab] 45)).push (x := ⟨.slice Ax od.length cx, i8s od, lab⟩) rfl ((by simp only [HLEN.out]; exact HOx.out.alloc _)) (fun k hk => by have := (HOX.out k hk); omega) (by rw [List.length_append, List.flatMap_append]; exact hown9) hgrow9 hfr9)
                      clear hown9 hgrow9 hfr9 hbq fq mq lq
                      go_wp2
                      go_roundw
                      case rel => exact ⟨k + 1, ⟨4, sb, z.xs ++ [(i8s od, (lab : Int))]⟩, _, Ab, cb, _, xs ++ [⟨.slice Ax od.length cx, i8s od, lab⟩], by omega, rfl, by go_num, HP, Lib.hid ⟨by rw [List.map_append, hz.out.1]; rfl, by rw [List.length_append, hz.out.2.1]; rfl, by
                        have h1 := hz.out.2.2.1
                        rw [show n6 - k = (n6 - (k + 1)) + 1 by omega, decRun, if_pos HZE.out] at h1
                        rw [← h1]
                        congr 1
                        exact HST.out.symm, by intro h; exact hz.out.2.2.2.1 HZE.out, lb⟩⟩
                      case measure => simp [intOf]; omega
                    | false =>
                      have h4 : er4 ≠ 4 := by simpa using e4
                      rw [if_neg h4] at HST
                      clear h4
                      go_wp2_with fail
                      refine HON.out.mono ?_
                      rintro en wz ⟨rfl, hb⟩
                      have HSx := Lib.hid (HSx.out.below hb)
                      have HOx := Lib.hid (own_off HOx.out (Off.of_below hb (S := fun i => wr.heap.size ≤ i) (fun i hi => .inl hi)) (fun k hk => by have := (HOx.out.lt k hk).2; omega))
                      have hkg2 := HKG.out.below hb hgx
                      have hkq := HSx.out.blk
                      have hqx : q < wz.heap.size := hkq.lt
                      have m0 := hkq.cell 0
                      have m1 := hkq.cell 1
                      have m2 := hkq.cell 2
                      have m3 := hkq.cell 3
                      have m4 := hkq.cell 4
                      have m5 := hkq.cell 5
                      simp only [List.cons_append, List.nil_append, List.getElem?_cons_zero, List.getElem?_cons_succ] at m0 m1 m2 m3 m4 m5
                      have kb0 := hkg2.cell 0
                      have kb1 := hkg2.cell 1
                      have hgx := hkg2.lt
                      simp only [List.getElem?_cons_zero, List.getElem?_cons_succ] at kb0 kb1
                      clear hkq hb hkg2 HON
                      cases r1 with
                      | true =>
                        rw [if_pos rfl] at HST
                        go_wp2_with (at_builtin; refine wpList_extendN elem_ex _ rfl (.tmp 91) (.tmp 93) rfl w.heap.size xs.length _ (xs.flatMap ExV.cells) rfl (HSx.out.alloc (.cells #[.slice Ax od.length cx, .int .i64 lab] 45)).own _ 1 _ [.slice Ax od.length cx, .int .i64 lab] rfl ((Blk.fresh wz 45 [.slice Ax od.length cx, .int .i64 lab]).readsN (n := 1) rfl (by decide)) rfl (by simp [Value.oneCell']) (by unfold maxLen; omega) (by omega) (by have := HSx.out.bel.size; simp; omega) ?_; intro A9 c9 w9' hown9 hgrow9 hfr9; have hbq := (HSx.out.blk.alloc (.cells #[.slice Ax od.length cx, .int .i64 lab] 45)).grown hgrow9 (Ne.symm HSx.out.vb.2.1); have fq := hbq.free 5; have mq := hbq.cell 5; have lq := hbq.lt; simp only [List.cons_append, List.nil_append, List.getElem?_cons_zero, List.getElem?_cons_succ] at mq)
                        have HP := Lib.hid ((HSx.out.alloc (.cells #[.slice Ax od.length cx, .int .i64 lab] 45)).push (x := ⟨.slice Ax od.length cx, i8s od, lab⟩) rfl ((by simp only [HLEN.out]; exact HOx.out.alloc _)) (fun k hk => by have := (HOX.out k hk); omega) (by rw [List.length_append, List.flatMap_append]; exact hown9) hgrow9 hfr9)
                        clear hown9 hgrow9 hfr9 hbq fq mq lq
                        go_wp2
                        go_roundw
                        case rel => exact ⟨k + 1, ⟨z.e, sb, z.xs ++ [(i8s od, (lab : Int))]⟩, _, Ab, cb, _, xs ++ [⟨.slice Ax od.length cx, i8s od, lab⟩], by omega, rfl, by go_num, HP, Lib.hid ⟨by rw [List.map_append, hz.out.1]; rfl, by rw [List.length_append, hz.out.2.1]; rfl, by
                          have h1 := hz.out.2.2.1
                          rw [show n6 - k = (n6 - (k + 1)) + 1 by omega, decRun, if_pos HZE.out] at h1
                          rw [← h1]
                          congr 1
                          exact HST.out.symm, by intro h; exact hz.out.2.2.2.1 HZE.out, lb⟩⟩
                        case measure => simp [intOf]; omega
                      | false =>
                        rw [if_neg (by decide)] at HST
                        go_wp2_with (at_builtin; refine wpList_extendN elem_ex _ rfl (.tmp 91) (.tmp 93) rfl w.heap.size xs.length _ (xs.flatMap ExV.cells) rfl (HSx.out.alloc (.cells #[.slice Ax od.length cx, .int .i64 lab] 45)).own _ 1 _ [.slice Ax od.length cx, .int .i64 lab] rfl ((Blk.fresh wz 45 [.slice Ax od.length cx, .int .i64 lab]).readsN (n := 1) rfl (by decide)) rfl (by simp [Value.oneCell']) (by unfold maxLen; omega) (by omega) (by have := HSx.out.bel.size; simp; omega) ?_; intro A9 c9 w9' hown9 hgrow9 hfr9; have hbq := (HSx.out.blk.alloc (.cells #[.slice Ax od.length cx, .int .i64 lab] 45)).grown hgrow9 (Ne.symm HSx.out.vb.2.1); have fq := hbq.free 5; have mq := hbq.cell 5; have lq := hbq.lt; simp only [List.cons_append, List.nil_append, List.getElem?_cons_zero, List.getElem?_cons_succ] at mq)
                        have HP := Lib.hid ((HSx.out.alloc (.cells #[.slice Ax od.length cx, .int .i64 lab] 45)).push (x := ⟨.slice Ax od.length cx, i8s od, lab⟩) rfl ((by simp only [HLEN.out]; exact HOx.out.alloc _)) (fun k hk => by have := (HOX.out k hk); omega) (by rw [List.length_append, List.flatMap_append]; exact hown9) hgrow9 hfr9)
                        clear hown9 hgrow9 hfr9 hbq fq mq lq
                        go_wp2
                        go_roundw
                        case rel => exact ⟨k + 1, ⟨5, sb, z.xs ++ [(i8s od, (lab : Int))]⟩, _, Ab, cb, _, xs ++ [⟨.slice Ax od.length cx, i8s od, lab⟩], by omega, rfl, by go_num, HP, Lib.hid ⟨by rw [List.map_append, hz.out.1]; rfl, by rw [List.length_append, hz.out.2.1]; rfl, by
                          have h1 := hz.out.2.2.1
                          rw [show n6 - k = (n6 - (k + 1)) + 1 by omega, decRun, if_pos HZE.out] at h1
                          rw [← h1]
                          congr 1
                          exact HST.out.symm, by intro h; exact hz.out.2.2.2.1 HZE.out, lb⟩⟩
                        case measure => simp [intOf]; omega
              · obtain rfl : k = n6 := by omega
                have HZ : Hid (zf = z) := Lib.hid (by
                  have h1 := hz.out.2.2.1
                  rw [Nat.sub_self] at h1
                  exact h1.symm)
                have t1 : (z.e == 0) = true := by simpa using he
                have t2 : decide ((k : Int) < (k : Int)) = false := by simp
                have HZE := Lib.hid he
                clear he hlt
                obtain ⟨er4, her⟩ : ∃ o, endErr z.s.1 z.s.2 = o := ⟨_, rfl⟩
                have HE := Lib.hid (end_any wr p A8 c8 z.s.1 z.s.2 hds.out.rd)
                rw [her] at HE
                have HDE : Hid (decEnd z = er4) := Lib.hid (by unfold decEnd; rw [if_pos HZE.out, her])
                clear her
                go_wp2_with fail
                refine HE.out.mono ?_
                rintro en wz ⟨rfl, hw⟩
                subst hw
                clear HE
                have hkr := hds.out.res
                have hmr : w.heap.size < wr.heap.size := hkr.lt
                have m0 := hkr.cell 0
                have m1 := hkr.cell 1
                have m2 := hkr.cell 2
                have m3 := hkr.cell 3
                have m4 := hkr.cell 4
                have m5 := hkr.cell 5
                have f0 := hkr.free 0
                have f1 := hkr.free 1
                have f2 := hkr.free 2
                have f3 := hkr.free 3
                have f4 := hkr.free 4
                have f5 := hkr.free 5
                simp only [List.getElem?_cons_zero, List.getElem?_cons_succ] at m0 m1 m2 m3 m4 m5
                have HKR := Lib.hid hkr
                clear hkr
                by_cases h4 : er4 = 0
                · have e4 : (er4 != 0) = false := by simp [h4]
                  obtain ⟨Av, cv, hv8⟩ := own_form hds.out.own
                  subst hv8
                  have HDEC : Hid (decode bs = (0, ⟨n1, n2, n3, x4, n5, .slice none 0 0, []⟩, z.xs)) := Lib.hid (by
                    unfold decode
                    rw [HBDF.out, if_neg (by decide), HZF.out, HZ.out, HDE.out, if_pos h4, HH.out])
                  have hkq := hds.out.blk
                  have hqx : q < wr.heap.size := hkq.lt
                  have g0 := hkq.cell 0
                  have g1 := hkq.cell 1
                  have g2 := hkq.cell 2
                  have g3 := hkq.cell 3
                  have g4 := hkq.cell 4
                  have g5 := hkq.cell 5
                  simp only [List.cons_append, List.nil_append, List.getElem?_cons_zero, List.getElem?_cons_succ] at g0 g1 g2 g3 g4 g5
                  have hrq := hds.out.ap.1
                  clear hkq h4
                  go_wp2_with fail
                  have hq := six_ok HKR.out (.int .i64 n1) (.int .i64 n2) (.int .i64 n3) (.int .i64 x4) (.int .i64 n5) (.slice Av xs.length cv)
                  unfold six at hq
                  generalize ((((((wr.setCell ⟨w.heap.size, 0, none⟩ (.int .i64 n1)).setCell ⟨w.heap.size, 1, none⟩ (.int .i64 n2)).setCell ⟨w.heap.size, 2, none⟩ (.int .i64 n3)).setCell ⟨w.heap.size, 3, none⟩ (.int .i64 x4)).setCell ⟨w.heap.size, 4, none⟩ (.int .i64 n5)).setCell ⟨w.heap.size, 5, none⟩ (.slice Av xs.length cv)) = W at hq ⊢
                  obtain ⟨hqo, hqb⟩ := hq
                  have p0 := hqb.cell 0
                  have p1 := hqb.cell 1
                  have p2 := hqb.cell 2
                  have p3 := hqb.cell 3
                  have p4 := hqb.cell 4
                  have p5 := hqb.cell 5
                  simp only [List.getElem?_cons_zero, List.getElem?_cons_succ] at p0 p1 p2 p3 p4 p5
                  refine bodyPost_ret (v := .tuple #[.agg #[.int .i64 n1, .int .i64 n2, .int .i64 n3, .int .i64 x4, .int .i64 n5, .slice Av xs.length cv], .int .i64 0]) ?_ rfl ?_
                  · simp [results, Try.results19, asAddr, Result.andThen, p0, p1, p2, p3, p4, p5, go_sem]
                  · refine ⟨hds.out.bel.trans (hqo.below hds.out.bel.size (fun i hi => by omega)), xs, .slice Av xs.length cv, ?_, ?_, own_off hds.out.own hqo (fun k hk e => hds.out.vb.1 (by rw [hk, e])), fun e he => own_off (hds.out.exs e he).1 hqo (fun k hk => ((hds.out.exs e he).2 k hk).2.2.2.2)⟩
                    · rw [HDEC.out]
                    · rw [HDEC.out]; exact hz.out.1
                · have e4 : (er4 != 0) = true := by simpa using h4
                  have HDEC : Hid (decode bs = (er4, ⟨0, 0, 0, 0, 0, .slice none 0 0, []⟩, [])) := Lib.hid (by
                    unfold decode
                    rw [HBDF.out, if_neg (by decide), HZF.out, HZ.out, HDE.out, if_neg h4])
                  clear h4
                  go_wp2_with fail
                  have hq := six_ok HKR.out (.int .i64 0) (.int .i64 0) (.int .i64 0) (.int .i64 0) (.int .i64 0) (.slice none 0 0)
                  unfold six at hq
                  generalize ((((((wr.setCell ⟨w.heap.size, 0, none⟩ (.int .i64 0)).setCell ⟨w.heap.size, 1, none⟩ (.int .i64 0)).setCell ⟨w.heap.size, 2, none⟩ (.int .i64 0)).setCell ⟨w.heap.size, 3, none⟩ (.int .i64 0)).setCell ⟨w.heap.size, 4, none⟩ (.int .i64 0)).setCell ⟨w.heap.size, 5, none⟩ (.slice none 0 0)) = W at hq ⊢
                  obtain ⟨hqo, hqb⟩ := hq
                  have p0 := hqb.cell 0
                  have p1 := hqb.cell 1
                  have p2 := hqb.cell 2
                  have p3 := hqb.cell 3
                  have p4 := hqb.cell 4
                  have p5 := hqb.cell 5
                  simp only [List.getElem?_cons_zero, List.getElem?_cons_succ] at p0 p1 p2 p3 p4 p5
                  refine bodyPost_ret (v := .tuple #[.agg #[.int .i64 0, .int .i64 0, .int .i64 0, .int .i64 0, .int .i64 0, .slice none 0 0], .int .i64 er4]) ?_ rfl ?_
                  · simp [results, Try.results19, asAddr, Result.andThen, p0, p1, p2, p3, p4, p5, go_sem]
                  · refine ⟨hds.out.bel.trans (hqo.below hds.out.bel.size (fun i hi => by omega)), [], .slice none 0 0, ?_, ?_, World.ownsRow_nil _ _ _ _, fun e he => absurd he (by simp)⟩
                    · rw [HDEC.out]
                    · rw [HDEC.out]; rfl
            · have HZ : Hid (zf = z) := Lib.hid (by
                rw [← hz.out.2.2.1]
                exact decRun_ne he _)
              have t1 : (z.e == 0) = false := by simpa using he
              have t3 : (z.e != 0) = true := by simpa using he
              have HDEC : Hid (decode bs = (z.e, ⟨0, 0, 0, 0, 0, .slice none 0 0, []⟩, [])) := Lib.hid (by
                unfold decode
                rw [HBDF.out, if_neg (by decide), HZF.out, HZ.out, show decEnd z = z.e by unfold decEnd; rw [if_neg he], if_neg he])
              clear he
              have hkr := hds.out.res
              have hmr : w.heap.size < wr.heap.size := hkr.lt
              have m0 := hkr.cell 0
              have m1 := hkr.cell 1
              have m2 := hkr.cell 2
              have m3 := hkr.cell 3
              have m4 := hkr.cell 4
              have m5 := hkr.cell 5
              have f0 := hkr.free 0
              have f1 := hkr.free 1
              have f2 := hkr.free 2
              have f3 := hkr.free 3
              have f4 := hkr.free 4
              have f5 := hkr.free 5
              simp only [List.getElem?_cons_zero, List.getElem?_cons_succ] at m0 m1 m2 m3 m4 m5
              have HKR := Lib.hid hkr
              clear hkr
              go_wp2_with fail
              have hq := six_ok HKR.out (.int .i64 0) (.int .i64 0) (.int .i64 0) (.int .i64 0) (.int .i64 0) (.slice none 0 0)
              unfold six at hq
              generalize ((((((wr.setCell ⟨w.heap.size, 0, none⟩ (.int .i64 0)).setCell ⟨w.heap.size, 1, none⟩ (.int .i64 0)).setCell ⟨w.heap.size, 2, none⟩ (.int .i64 0)).setCell ⟨w.heap.size, 3, none⟩ (.int .i64 0)).setCell ⟨w.heap.size, 4, none⟩ (.int .i64 0)).setCell ⟨w.heap.size, 5, none⟩ (.slice none 0 0)) = W at hq ⊢
              obtain ⟨hqo, hqb⟩ := hq
              have p0 := hqb.cell 0
              have p1 := hqb.cell 1
              have p2 := hqb.cell 2
              have p3 := hqb.cell 3
              have p4 := hqb.cell 4
              have p5 := hqb.cell 5
              simp only [List.getElem?_cons_zero, List.getElem?_cons_succ] at p0 p1 p2 p3 p4 p5
              refine bodyPost_ret (v := .tuple #[.agg #[.int .i64 0, .int .i64 0, .int .i64 0, .int .i64 0, .int .i64 0, .slice none 0 0], .int .i64 z.e]) ?_ rfl ?_
              · simp [results, Try.results19, asAddr, Result.andThen, p0, p1, p2, p3, p4, p5, go_sem]
              · refine ⟨hds.out.bel.trans (hqo.below hds.out.bel.size (fun i hi => by omega)), [], .slice none 0 0, ?_, ?_, World.ownsRow_nil _ _ _ _, fun e he => absurd he (by simp)⟩
                · rw [HDEC.out]
                · rw [HDEC.out]; rfl
end Go.Proofs.Ytfhlailhcfjjaaa
