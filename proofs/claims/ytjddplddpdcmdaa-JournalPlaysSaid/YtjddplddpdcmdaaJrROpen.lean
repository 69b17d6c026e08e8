/- Contract of the reference's OpenJournal. -/
import Derived.Test.YtjddplddpdcmdaaJrROpen1
import Derived.Deep.RegionHeld3
import Derived.Deep.DrawnRows
namespace Go.Proofs.Ytjddplddpdcmdaa
open Go.RowKit
set_option linter.unusedVariables false
set_option linter.unusedSimpArgs false

section
variable {w0 w w' W W' w1 w2 : World} {ds ds' : List (Nat × Dk)} {bs bs' : List (Nat × TypeId × List Value)} {rs rs' rs0 : List (Nat × Value × List Value)} {p d g k n sz : Nat} {s : Dk} {r r' : Rk} {v u : Value} {t : TypeId} {cs cs' xs : List Value} {j : Jr}
theorem KM.start (h : RM w0 W ds p r bs rs0) (hl : s.now.length = r.sure.length) : KM w0 (W.alloc (.cells #[.pointer (some ⟨p, 0, none⟩), .bool false, .int .i64 0, .int .u32 0, .slice none 0 0, .bool false] 81)) ds p r W.heap.size (freshJ s) bs ((1, .slice none 0 0, bytesV []) :: rs0) := by
  have hb : Below W.heap.size W (W.alloc (.cells #[.pointer (some ⟨p, 0, none⟩), .bool false, .int .i64 0, .int .u32 0, .slice none 0 0, .bool false] 81)) := (Below.refl _ _).alloc (Nat.le_refl _) _
  have h1 := (h.read (Below.refl _ _) (sz := 1) (ReadsIn.nil_ (fun i => W.heap.size ≤ i) W)).more hb (Nat.le_refl _) (Blk.fresh W 81 [.pointer (some ⟨p, 0, none⟩), .bool false, .int .i64 0, .int .u32 0, .slice none 0 0, .bool false])
  exact ⟨.slice none 0 0, h1, .head _⟩
set_option maxHeartbeats 12800000 in
set_option maxRecDepth 100000 in
theorem kopen_any (h : RM w0 W ds p r bs rs0) (ha : Alike s r) (ho : s.ops < 900000000) : Calls Try.prog 24 #[.pointer (some ⟨p, 0, none⟩)] W fun en W' =>
    ((openJ s).2.1 ≠ 0 ∧ en = .returned (.tuple #[.pointer none, .int .i64 (openJ s).2.1]) ∧ ∃ r', Alike (openJ s).1 r' ∧ RM w0 W' ds p r' bs rs0) ∨
    ((openJ s).2.1 = 0 ∧ ∃ k, en = .returned (.tuple #[.pointer (some ⟨k, 0, none⟩), .int .i64 0]) ∧ ∃ r', Alike (openJ s).1 r' ∧ ∃ rs', SubR rs0 rs' ∧ KM w0 W' ds p r' k (openJ s).2.2 bs rs') := by
  have hlen := ha.len
  have hdn := ha.down
  obtain ⟨N, hN⟩ : ∃ N, s.now.length = N := ⟨_, rfl⟩
  obtain ⟨dn, hd⟩ : ∃ d, s.down = d := ⟨_, rfl⟩
  have hm := ha.ok.most
  obtain ⟨hp, ⟨A0, c0, p0⟩, _⟩ := h.cells
  rw [← hlen, hN] at p0
  rw [hN] at hm
  have HH := Lib.hid h
  have HAL := Lib.hid ha
  have HO := Lib.hid ho
  have HN := Lib.hid hN
  have HD := Lib.hid hd
  by_cases h4 : N < 4
  · have t1 : decide ((N : Int) < 4) = true := by simp; omega
    have t1n : decide (N < 4) = true := by simp; omega
    have HOJ : Hid (openJ s = (s, 1, foundJ s)) := Lib.hid (by unfold openJ; rw [if_pos (by omega)])
    clear h4 hN hlen hd hdn ho ha h
    go_enter Try.func24, Try.ntmps24
    go_wp2
    refine bodyPost_ret (v := .tuple #[.pointer none, .int .i64 1]) (by simp [results, Try.results24, go_sem]) rfl ?_
    rw [HOJ.out]
    exact .inl ⟨by simp, rfl, r, HAL.out, HH.out⟩
  · have t1 : decide ((N : Int) < 4) = false := by simp; omega
    have t1n : decide (N < 4) = false := by simp; omega
    have HK0 := Lib.hid (KM.start (s := s) h hlen)
    obtain ⟨hf, hhf⟩ : ∃ hf, N / 2 = hf := ⟨_, rfl⟩
    have HHF := Lib.hid hhf
    have HHS : Hid (r.sure.length / 2 = hf) := Lib.hid (by rw [← hlen, hN, hhf])
    have HF2 : Hid (2 ≤ hf ∧ hf ≤ 2048 ∧ 2 * hf ≤ N) := Lib.hid (by omega)
    clear h4 hN hlen hd hdn ho ha h hhf
    go_enter Try.func24, Try.ntmps24
    go_upto_region 4 with fail
    obtain ⟨k, hk⟩ : ∃ k, W.heap.size = k := ⟨_, rfl⟩
    rw [hk] at HK0 ⊢
    generalize (W.alloc (.cells #[.pointer (some ⟨p, 0, none⟩), .bool false, .int .i64 0, .int .u32 0, .slice none 0 0, .bool false] 81)) = W1 at HK0 ⊢
    have HS0 : Hid (SubR rs0 ((1, .slice none 0 0, bytesV []) :: rs0)) := Lib.hid (SubR.cons _ _)
    clear hk p0 hp HH
    go_wp2
    go_loopw [29] (fun i wr => ∃ (σ : Nat) (rs : List (Nat × Value × List Value)), σ ≤ 2 ∧ i = .int .i64 σ ∧ Hid (dn = true → σ = 0) ∧ Hid (SubR rs0 rs) ∧ Hid (KM w0 wr ds p r k (stJ s σ) bs rs)) (fun i _ => 2 - (intOf i).toNat)
    case atStart => exact ⟨0, _, by omega, rfl, Lib.hid (fun _ => rfl), HS0, HK0⟩
    case round =>
      obtain ⟨σ, rs, hσ, rfl, hdz, hsub, hkm⟩ := hrel
      clear HK0 HS0
      by_cases hlt : σ < 2
      · have t2 : decide ((σ : Int) < 2) = true := by simp; omega
        have t2n : decide (σ < 2) = true := by simp; omega
        obtain ⟨f, hfe⟩ : ∃ f, σ * hf = f := ⟨_, rfl⟩
        have hfb : f + hf ≤ N := by
          have := HF2.out
          rcases Nat.le_one_iff_eq_zero_or_eq_one.1 (show σ ≤ 1 by omega) with rfl | rfl <;> omega
        have e1 : ((σ : Int) * (hf : Int)) = (f : Int) := by rw [← hfe]; simp
        have hfl : (f : Int) ≤ 4096 := by omega
        have hf0 : (0 : Int) ≤ (f : Int) := by omega
        have HFE := Lib.hid hfe
        have HFB := Lib.hid hfb
        have HLT := Lib.hid hlt
        clear hfe hfb hlt
        go_wp2_with fail
        refine (khalf_any hkm.out hf HHS.out).mono ?_
        rintro en w2 ⟨rfl, rfl⟩
        go_wp2
        obtain ⟨BW, hBW⟩ : ∃ B, wr.heap.size = B := ⟨_, rfl⟩
        have HBW := Lib.hid hBW
        have HO0 : Hid (wr.ownsRow BW 5 1 (.slice none 0 0) (0 * 64) (bytesV (gatherX s f 0))) := Lib.hid (by rw [Nat.zero_mul]; exact World.ownsRow_nil _ _ _ _)
        have HB0 := Lib.hid (Below.refl BW wr)
        clear hBW
        go_loopw [34, 6] (fun i b wq => ∃ (kk : Nat) (A : Option Addr) (c : Nat), kk ≤ hf ∧ i = .int .i64 kk ∧ b = .slice A (kk * 64) c ∧ Hid (dn = true → kk = 0) ∧ Hid (wq.ownsRow BW 5 1 (.slice A (kk * 64) c) (kk * 64) (bytesV (gatherX s f kk))) ∧ Hid (Below BW wr wq)) (fun i _ _ => hf - (intOf i).toNat)
        case atStart => exact ⟨0, none, 0, by omega, rfl, rfl, Lib.hid (fun _ => rfl), HO0, HB0⟩
        case round =>
          obtain ⟨kk, A, c, hk2, rfl, rfl, hz, hown, hbl⟩ := hrel
          clear HO0 HB0
          by_cases hlt : kk < hf
          · have t3 : decide ((kk : Int) < (hf : Int)) = true := by simp; omega
            have t3n : decide (kk < hf) = true := by simp; omega
            have hk9 : (kk : Int) ≤ 4096 := by have := HF2.out; omega
            have hk0 : (0 : Int) ≤ (kk : Int) := by omega
            have HKQ := Lib.hid (hkm.out.below (by rw [HBW.out]; exact hbl.out))
            obtain ⟨bv9, hrm9, _⟩ := HKQ.out
            have HRQ := Lib.hid hrm9
            have hkN : f + kk < s.now.length := by rw [HN.out]; have := HFB.out; omega
            have ei : (f : Int) + (kk : Int) = ((f + kk : Nat) : Int) := by omega
            obtain ⟨⟨y, ey⟩, hry⟩ : ∃ q, r.read ((f + kk : Nat) : Int) = q := ⟨_, rfl⟩
            have HRY := Lib.hid (rread_bel HRQ.out ((f : Int) + (kk : Int)) (y, ey) (by rw [ei]; exact hry))
            have hsy : s.read ((f + kk : Nat) : Int) = (y, ey) := by rw [HAL.out.read]; exact hry
            clear hrm9 hry ei
            go_wp2_with fail
            refine (khalf_any HKQ.out hf HHS.out).mono ?_
            rintro en w3 ⟨rfl, rfl⟩
            go_wp2_with fail
            refine HRY.out.mono ?_
            rintro en w4 ⟨A4, n4, c4, rfl, hb4, hr4⟩
            have HB4 := Lib.hid (hbl.out.trans (hb4.mono (by have := hbl.out.size; rw [HBW.out] at this; exact this)))
            have HO4 := Lib.hid (own_bel3 hown.out hb4)
            have HR4 := Lib.hid hr4.reads
            clear hb4 hr4 hown HRY HRQ HKQ
            dsimp only
            cases dn with
            | true =>
              obtain rfl : kk = 0 := hz.out rfl
              obtain rfl : σ = 0 := hdz.out rfl
              obtain rfl : ey = 9 := by rw [Dk.read_down HD.out hkN] at hsy; injection hsy with h1 h2; exact h2.symm
              have HOJ : Hid (openJ s = (s, 9, foundJ s)) := Lib.hid (by unfold openJ; rw [if_neg (by have := HF2.out; have := HN.out; omega), if_pos HD.out])
              have HKE := Lib.hid (hkm.out.below (by rw [HBW.out]; exact HB4.out))
              clear hsy
              go_wp2
              refine bodyPost_ret (v := .tuple #[.pointer none, .int .i64 9]) (by simp [results, Try.results24, go_sem]) rfl ?_
              rw [HOJ.out]
              obtain ⟨bv9, hrm9, _⟩ := HKE.out
              exact .inl ⟨by simp, rfl, r, HAL.out, (hrm9.dropB).sub hsub.out⟩
            | false =>
              rw [Dk.read_at HD.out hkN] at hsy
              injection hsy with h1 h2
              subst h2
              have HGX : Hid (gatherX s f (kk + 1) = gatherX s f kk ++ y) := Lib.hid (by rw [gatherX_succ, h1])
              have HYL : Hid (y.length = 64) := Lib.hid (by rw [← h1]; exact HAL.out.ok.at64 hkN)
              clear h1
              go_wp2_with (at_builtin; go_loud (refine wpList_extend elem_byte _ rfl (.tmp 51) (.tmp 52) rfl BW (kk * 64) _ _ rfl HO4.out _ _ (bytesV y) rfl HR4.out (bytesV_one _) (by rw [length_bytesV, HYL.out]; unfold maxLen; omega) (by rw [length_bytesV, HYL.out]; omega) (by have := HB4.out.size; rw [HBW.out] at this; exact this) ?_); go_loud (intro A9 c9 w9 hown9 hg9 hf9; rw [bytesV_append, ← HGX.out, length_bytesV, HYL.out] at hown9; rw [length_bytesV, HYL.out]; have HB9 := Lib.hid (HB4.out.grown hg9 (by have := HB4.out.size; rw [HBW.out] at this; exact this) (fun i hi => (HO4.out.lt i hi).1)); have HO9 := Lib.hid hown9; clear hown9 hg9 hf9 HO4 HB4))
              go_roundw
              case rel => exact ⟨kk + 1, A9, c9, by omega, by go_num, by rw [Nat.succ_mul], Lib.hid (fun h => by cases h), Lib.hid (by rw [Nat.succ_mul]; exact HO9.out), HB9⟩
              case measure => simp [intOf]; omega
          · have hke : hf = kk := by omega
            subst hke
            obtain rfl : dn = false := by
              cases dn with
              | false => rfl
              | true => have := hz.out rfl; have := HF2.out; omega
            have t3 : decide ((hf : Int) < (hf : Int)) = false := by simp
            have t3n : decide (hf < hf) = false := by simp
            obtain ⟨a, ha⟩ : ∃ a, gatherX s f hf = a := ⟨_, rfl⟩
            rw [ha] at hown
            have hal : a.length = hf * 64 := by rw [← ha]; exact gatherX_len HAL.out.ok (by rw [HN.out]; exact HFB.out)
            have HRJ0 := Lib.hid (readJ_all HAL.out.ok HF2.out.1 (by rw [HN.out]; exact HFB.out) HFE.out ha)
            have HST0 := Lib.hid (stJ_succ s (hf := hf) (by rw [HN.out]; exact HHF.out) (show σ < 2 from HLT.out))
            obtain ⟨m, hm⟩ : ∃ m, hf * 64 = m := ⟨_, rfl⟩
            rw [hm] at hown hal ⊢
            have hm0 : 128 ≤ m ∧ m ≤ 131072 := by have := HF2.out; omega
            have hrA : ReadsIn 1 (fun i => BW ≤ i) wr (.slice A m c) (bytesV a) := own_readsIn (by omega) hown.out (fun i hi => (hown.out.lt i hi).1)
            obtain ⟨g, o, rfl⟩ : ∃ g o, A = some ⟨g, o, none⟩ := by
              obtain ⟨A9, n9, c9, e9, _, _, _, hat⟩ := hrA
              injection e9 with e1 e2 e3
              subst e1 e2 e3
              obtain ⟨g, o, h, _⟩ := hat.out (by omega)
              exact ⟨g, o, h⟩
            have hmc : m ≤ c := by
              obtain ⟨A9, n9, c9, e9, _, hc9, _, _⟩ := hrA
              injection e9 with e1 e2 e3
              omega
            have hcm : c ≤ maxLen := by
              obtain ⟨A9, n9, c9, e9, _, _, hc9, _⟩ := hrA
              injection e9 with e1 e2 e3
              omega
            have hRA := hrA.reads
            have HKA := Lib.hid (hkm.out.read (sz := 1) (v := .slice (some ⟨g, o, none⟩) m c) (xs := bytesV a) (W' := wr) (by rw [HBW.out]; exact hbl.out) (by rw [HBW.out]; exact hrA))
            have HRS : Hid (SubR rs0 ((1, .slice (some ⟨g, o, none⟩) m c, bytesV a) :: rs)) := Lib.hid (hsub.out.trans (SubR.cons _ rs))
            obtain ⟨mk, hmk⟩ : ∃ x, a.take 4 = x := ⟨_, rfl⟩
            obtain ⟨z, hz9⟩ : ∃ x, (a.drop 20).take 44 = x := ⟨_, rfl⟩
            obtain ⟨gen, hgen⟩ : ∃ x, deB ((a.drop 4).take 4) = x := ⟨_, rfl⟩
            obtain ⟨n, hn⟩ : ∃ x, deB ((a.drop 8).take 4) = x := ⟨_, rfl⟩
            obtain ⟨u, hu⟩ : ∃ x, deB ((a.drop 12).take 4) = x := ⟨_, rfl⟩
            obtain ⟨hd9, hhd⟩ : ∃ x, deB ((a.drop 16).take 4) = x := ⟨_, rfl⟩
            obtain ⟨y16, hy16⟩ : ∃ x, a.take 16 = x := ⟨_, rfl⟩
            obtain ⟨l1, hl1⟩ : ∃ x, (a.take 20).drop 4 = x := ⟨_, rfl⟩
            obtain ⟨l2, hl2⟩ : ∃ x, l1.drop 4 = x := ⟨_, rfl⟩
            obtain ⟨l3, hl3⟩ : ∃ x, l2.drop 4 = x := ⟨_, rfl⟩
            obtain ⟨l4, hl4⟩ : ∃ x, l3.drop 4 = x := ⟨_, rfl⟩
            rw [hmk, hz9, hgen, hn, hu, hhd, hy16] at HRJ0
            obtain ⟨bb, hbb⟩ : ∃ x, (a.drop 64).take n = x := ⟨_, rfl⟩
            rw [hbb] at HRJ0
            have s1 : l1.length = 16 := by rw [← hl1, List.length_drop, List.length_take]; omega
            have s2 : l2.length = 12 := by rw [← hl2, List.length_drop]; omega
            have s3 : l3.length = 8 := by rw [← hl3, List.length_drop]; omega
            have s4 : l4.length = 4 := by rw [← hl4, List.length_drop]; omega
            have HG1 : Hid (deB (l1.take 4) = gen) := Lib.hid (by rw [← hgen, ← hl1, List.drop_take, List.take_take]; rfl)
            have HG2 : Hid (deB (l2.take 4) = n) := Lib.hid (by rw [← hn, ← hl2, ← hl1, List.drop_take, List.drop_take, List.take_take, List.drop_drop]; rfl)
            have HG3 : Hid (deB (l3.take 4) = u) := Lib.hid (by rw [← hu, ← hl3, ← hl2, ← hl1, List.drop_take, List.drop_take, List.drop_take, List.take_take, List.drop_drop, List.drop_drop]; rfl)
            have HG4 : Hid (deB (l4.take 4) = hd9) := Lib.hid (by rw [← hhd, ← hl4, ← hl3, ← hl2, ← hl1, List.drop_take, List.drop_take, List.drop_take, List.drop_take, List.take_take, List.drop_drop, List.drop_drop, List.drop_drop]; rfl)
            have gb1 : gen < 4294967296 := by rw [← hgen]; exact deB_lt4 (by rw [List.length_take]; omega)
            have gb2 : n < 4294967296 := by rw [← hn]; exact deB_lt4 (by rw [List.length_take]; omega)
            have gb3 : u < 4294967296 := by rw [← hu]; exact deB_lt4 (by rw [List.length_take]; omega)
            have gb4 : hd9 < 4294967296 := by rw [← hhd]; exact deB_lt4 (by rw [List.length_take]; omega)
            have HM4 : Hid ((a.take 20).take 4 = mk) := Lib.hid (by rw [← hmk, List.take_take]; rfl)
            have HML : Hid (mk.length = 4) := Lib.hid (by rw [← hmk, List.length_take]; omega)
            have HZL : Hid (z.length = 44) := Lib.hid (by rw [← hz9, List.length_take, List.length_drop]; omega)
            have HY := Lib.hid hy16
            have HZE := Lib.hid hz9
            have HBE := Lib.hid hbb
            have HL1 := Lib.hid hl1
            have HL2 := Lib.hid hl2
            have HL3 := Lib.hid hl3
            have HL4 := Lib.hid hl4
            have S1 := Lib.hid s1
            have S2 := Lib.hid s2
            have S3 := Lib.hid s3
            have S4 := Lib.hid s4
            have HAL9 := Lib.hid hal
            have HM0 := Lib.hid hm0
            have HMD := Lib.hid hm
            have HS0 := Lib.hid (SQ.start hRA (Nat.le_refl _) (by omega) hal)
            have hi1 : (128 : Int) ≤ (m : Int) := by omega
            have hi2 : (m : Int) ≤ 131072 := by omega
            have hi3 : (m : Int) ≤ (c : Int) := by omega
            have hi4 : (c : Int) ≤ 9223372036854775807 := by unfold maxLen at hcm; omega
            clear hm hm0 hrA hRA hmc hcm hmk hz9 hgen hn hu hhd hy16 hl1 hl2 hl3 hl4 hbb s1 s2 s3 s4 hown hbl hkm hz ha hal hdz hsub
            go_wp2_with fail
            generalize (wr.alloc (.cells #[.slice (some ⟨g, o, none⟩) 20 c, .int .i64 0] 84)) = w5 at HS0 ⊢
            refine (rraw4_any HS0.out (by rw [List.length_take, HAL9.out]; have := HM0.out; omega) (by rw [List.length_take]; omega)).mono ?_
            rintro en w6 ⟨A6, c6, A7, c7, rfl, hr6, hs6⟩
            rw [HM4.out] at hr6
            rw [HL1.out] at hs6
            have kS := run_str_r hr6
            have HS6 := Lib.hid hs6
            clear hr6 hs6 HS0
            go_wp2_with fail
            refine (rq32_any HS6.out (by rw [S1.out]; omega) (by rw [S1.out]; omega)).mono ?_
            rintro en w7 ⟨rfl, A7, c7, hs7⟩
            rw [HG1.out]
            rw [HL2.out] at hs7
            have HS7 := Lib.hid hs7
            clear hs7 HS6 kS
            go_wp2_with fail
            refine (rq32_any HS7.out (by rw [S2.out]; omega) (by rw [S2.out]; omega)).mono ?_
            rintro en w8 ⟨rfl, A8, c8, hs8⟩
            rw [HG2.out]
            rw [HL3.out] at hs8
            have HS8 := Lib.hid hs8
            clear hs8 HS7
            go_wp2_with fail
            refine (rq32_any HS8.out (by rw [S3.out]; omega) (by rw [S3.out]; omega)).mono ?_
            rintro en w9 ⟨rfl, A9, c9, hs9⟩
            rw [HG3.out]
            rw [HL4.out] at hs9
            have HS9 := Lib.hid hs9
            clear hs9 HS8
            go_wp2_with fail
            refine (rq32_any HS9.out (by rw [S4.out]; omega) (by rw [S4.out]; omega)).mono ?_
            rintro en w10 ⟨rfl, A10, c10, hs10⟩
            rw [HG4.out]
            have HS10 := Lib.hid hs10
            clear hs10 HS9
            go_wp2_with fail
            have HRZ := Lib.hid (HKA.out.below HS10.out.1)
            clear HS10 HKA HG1 HG2 HG3 HG4 HM4 HL1 HL2 HL3 HL4 S1 S2 S3 S4
            have hra : Reads w10 w10.heap.size (.slice (some ⟨g, o, none⟩) m c) (bytesV a) := by
              obtain ⟨bv9, h1, _⟩ := HRZ.out
              exact h1.reads1 (.head _)
            have hzr := all_part hra (i := 20) (n := 44) (by have := HM0.out; omega)
            rw [HZE.out] at hzr
            have HCZ : Hid (∀ kk, kk < 44 → ∃ b, z[kk]? = some b ∧ w10.cell? ⟨g, o + 20 + kk, none⟩ = some (.int .u8 ((b.toNat : Nat) : Int))) := Lib.hid (fun kk hk => by
              obtain ⟨A9, n9, c9, e9, _, _, _, hat⟩ := hzr
              injection e9 with e1 e2 e3
              subst e1 e2 e3
              obtain ⟨g9, o9, e9, _, hx⟩ := hat.out (by omega)
              injection e9 with e9
              injection e9 with e1 e2 e3
              subst e1 e2
              exact ⟨z[kk]'(by rw [HZL.out]; exact hk), List.getElem?_eq_getElem _, hx kk _ (bytesV_at z kk (by rw [HZL.out]; exact hk))⟩)
            have HRA9 := Lib.hid hra
            clear hra hzr
            go_loopw [74, 16] (fun i b wx => ∃ kk : Nat, kk ≤ 44 ∧ i = .int .i64 kk ∧ b = .bool ((z.take kk).all (· == 0)) ∧ wx = w10) (fun i _ _ => 44 - (intOf i).toNat)
            case atStart => exact ⟨0, by omega, rfl, rfl, rfl⟩
            case round =>
              obtain ⟨kk, hk2, rfl, rfl, rfl⟩ := hrel
              by_cases hlt : kk < 44
              · obtain ⟨x, hx, hcx⟩ := HCZ.out kk hlt
                have t4 : decide ((kk : Int) < 44) = true := by simp; omega
                have t4n : decide (kk < 44) = true := by simp; omega
                have j0 : (0 : Int) ≤ (kk : Int) := by omega
                have j1 : (kk : Int) < 44 := by omega
                have HSN : Hid ((z.take (kk + 1)).all (· == 0) = ((z.take kk).all (· == 0) && (x == 0))) := Lib.hid (by
                  rw [List.take_add_one, hx, List.all_append]
                  simp)
                have hxb : (x.toNat : Int) < 256 := by have := x.toNat_lt; omega
                have HXE : Hid ((x == 0) = decide (x.toNat = 0)) := Lib.hid (byte_zero x)
                generalize (z.take kk).all (· == 0) = rv at HSN ⊢
                generalize x.toNat = xn at hcx hxb HXE
                rw [HXE.out] at HSN
                clear hx HXE
                cases rv with
                | true =>
                  by_cases hx0 : xn = 0
                  · subst hx0
                    have HSM : Hid ((z.take (kk + 1)).all (· == 0) = true) := Lib.hid (by rw [HSN.out]; rfl)
                    go_wp2
                    go_roundw
                    case rel => exact ⟨kk + 1, by omega, by go_num, by rw [HSM.out], trivial⟩
                    case measure => simp [intOf]; omega
                  · have t5 : ((xn : Int) == 0) = false := by simp; omega
                    have t5n : (xn == 0) = false := by simp; omega
                    have HSM : Hid ((z.take (kk + 1)).all (· == 0) = false) := Lib.hid (by rw [HSN.out]; simp; omega)
                    clear hx0
                    go_wp2
                    go_roundw
                    case rel => exact ⟨kk + 1, by omega, by go_num, by rw [HSM.out], trivial⟩
                    case measure => simp [intOf]; omega
                | false =>
                  have HSM : Hid ((z.take (kk + 1)).all (· == 0) = false) := Lib.hid (by rw [HSN.out]; rfl)
                  go_wp2
                  go_roundw
                  case rel => exact ⟨kk + 1, by omega, by go_num, by rw [HSM.out], trivial⟩
                  case measure => simp [intOf]; omega
              · have hke : kk = 44 := by omega
                subst hke
                obtain ⟨rv, hrv⟩ : ∃ rv, (z.take 44).all (· == 0) = rv := ⟨_, rfl⟩
                rw [hrv]
                have HRV : Hid (rv = decide (z = List.replicate 44 0)) := Lib.hid (by rw [← hrv, List.take_of_length_le (by rw [HZL.out]; exact Nat.le_refl _)]; exact all_zero HZL.out)
                obtain ⟨j, hj⟩ : ∃ j, stJ s σ = j := ⟨_, rfl⟩
                rw [hj] at HRZ HST0
                obtain ⟨room, hroom⟩ : ∃ x, (hf - 1) * 64 = x := ⟨_, rfl⟩
                obtain ⟨q16, hq16⟩ : ∃ x, crcN y16 = x := ⟨_, rfl⟩
                obtain ⟨qb, hqb⟩ : ∃ x, crcN bb = x := ⟨_, rfl⟩
                rw [hroom, hq16, hqb] at HRJ0
                have HSTOP : Hid (¬ (mk = [112, 100, 103, 113] ∧ z = List.replicate 44 0 ∧ hd9 = q16 ∧ 1 ≤ gen ∧ n ≤ room ∧ u = qb) → stJ s (σ + 1) = j) := Lib.hid (fun h => by
                  rw [HST0.out, HRJ0.out, if_neg h]
                  exact if_neg (Nat.not_lt_zero _))
                have HGO : Hid (mk = [112, 100, 103, 113] ∧ z = List.replicate 44 0 ∧ hd9 = q16 ∧ 1 ≤ gen ∧ n ≤ room ∧ u = qb → stJ s (σ + 1) = stepJ j σ (bb, gen)) := Lib.hid (fun h => by
                  rw [HST0.out, HRJ0.out, if_pos h])
                have HROOM := Lib.hid (kroom_any HRZ.out room (by rw [← HAL.out.len, HN.out]; have := HF2.out; omega) (by rw [HHS.out]; exact hroom))
                have h16 := HRA9.out.firsts (k := 16) (by have := HM0.out; omega)
                rw [show (bytesV a).take 16 = bytesV y16 by rw [← HY.out]; exact List.map_take.symm] at h16
                have HC16 := Lib.hid (rcrc_any wr _ _ _ h16)
                rw [hq16] at HC16
                have HRM : Hid (room + 64 = m) := Lib.hid (by rw [← hroom, ← HMD.out]; have := HF2.out; omega)
                have HQB := Lib.hid hqb
                have nb1 : (n : Int) < 4294967296 := by omega
                have nb0 : (0 : Int) ≤ (n : Int) := by omega
                clear h16 hq16 hqb hroom hrv hj HST0 HRJ0 HCZ hlt hk2
                by_cases h1 : mk = [112, 100, 103, 113]
                case neg =>
                  have t6 : (mk == [112, 100, 103, 113]) = false := by simpa using h1
                  have t6' : (mk != [112, 100, 103, 113]) = true := by simpa using h1
                  have HNX := Lib.hid (HSTOP.out (fun h => h1 h.1))
                  clear h1
                  go_wp2
                  go_roundw
                  case rel => exact ⟨σ + 1, _, by have := HLT.out; omega, by go_num, Lib.hid (fun h => by cases h), HRS, Lib.hid (by rw [HNX.out]; exact HRZ.out)⟩
                  case measure => simp [intOf]; have := HLT.out; omega
                have t6 : (mk == [112, 100, 103, 113]) = true := by simpa using h1
                have t6' : (mk != [112, 100, 103, 113]) = false := by simpa using h1
                have H1 := Lib.hid h1
                clear h1
                cases rv with
                | false =>
                  have HNX := Lib.hid (HSTOP.out (fun h => by have := HRV.out; rw [decide_eq_true h.2.1] at this; cases this))
                  go_wp2
                  go_roundw
                  case rel => exact ⟨σ + 1, _, by have := HLT.out; omega, by go_num, Lib.hid (fun h => by cases h), HRS, Lib.hid (by rw [HNX.out]; exact HRZ.out)⟩
                  case measure => simp [intOf]; have := HLT.out; omega
                | true =>
                  have H2 : Hid (z = List.replicate 44 0) := Lib.hid (of_decide_eq_true HRV.out.symm)
                  by_cases h3 : hd9 = q16
                  case neg =>
                    have t7 : ((hd9 : Int) == (q16 : Int)) = false := by simp; omega
                    have t7' : ((hd9 : Int) != (q16 : Int)) = true := by simp; omega
                    have HNX := Lib.hid (HSTOP.out (fun h => h3 h.2.2.1))
                    clear h3
                    go_wp2_with fail
                    refine HC16.out.mono ?_
                    rintro en w11 ⟨rfl, rfl⟩
                    go_wp2
                    go_roundw
                    case rel => exact ⟨σ + 1, _, by have := HLT.out; omega, by go_num, Lib.hid (fun h => by cases h), HRS, Lib.hid (by rw [HNX.out]; exact HRZ.out)⟩
                    case measure => simp [intOf]; have := HLT.out; omega
                  have t7 : ((hd9 : Int) == (q16 : Int)) = true := by simp; omega
                  have t7' : ((hd9 : Int) != (q16 : Int)) = false := by simp; omega
                  have H3 := Lib.hid h3
                  clear h3
                  by_cases h4 : 1 ≤ gen
                  case neg =>
                    have t8 : decide ((gen : Int) < 1) = true := by simp; omega
                    have t8n : decide (gen < 1) = true := by simp; omega
                    have HNX := Lib.hid (HSTOP.out (fun h => h4 h.2.2.2.1))
                    clear h4
                    go_wp2_with fail
                    refine HC16.out.mono ?_
                    rintro en w11 ⟨rfl, rfl⟩
                    go_wp2
                    go_roundw
                    case rel => exact ⟨σ + 1, _, by have := HLT.out; omega, by go_num, Lib.hid (fun h => by cases h), HRS, Lib.hid (by rw [HNX.out]; exact HRZ.out)⟩
                    case measure => simp [intOf]; have := HLT.out; omega
                  have t8 : decide ((gen : Int) < 1) = false := by simp; omega
                  have t8n : decide (gen < 1) = false := by simp; omega
                  have H4 := Lib.hid h4
                  clear h4
                  by_cases h5 : n ≤ room
                  case neg =>
                    have t9 : decide ((room : Int) < (n : Int)) = true := by simp; omega
                    have t9n : decide (room < n) = true := by simp; omega
                    have HNX := Lib.hid (HSTOP.out (fun h => h5 h.2.2.2.2.1))
                    clear h5
                    go_wp2_with fail
                    refine HC16.out.mono ?_
                    rintro en w11 ⟨rfl, rfl⟩
                    go_wp2_with fail
                    refine HROOM.out.mono ?_
                    rintro en w11 ⟨rfl, rfl⟩
                    go_wp2
                    go_roundw
                    case rel => exact ⟨σ + 1, _, by have := HLT.out; omega, by go_num, Lib.hid (fun h => by cases h), HRS, Lib.hid (by rw [HNX.out]; exact HRZ.out)⟩
                    case measure => simp [intOf]; have := HLT.out; omega
                  have t9 : decide ((room : Int) < (n : Int)) = false := by simp; omega
                  have t9n : decide (room < n) = false := by simp; omega
                  have hbp := all_part HRA9.out (i := 64) (n := n) (by have := HRM.out; omega)
                  rw [HBE.out] at hbp
                  have HBP := Lib.hid hbp
                  have HCB := Lib.hid (rcrc_any wr _ _ _ hbp)
                  rw [HQB.out] at HCB
                  have H5 := Lib.hid h5
                  have nb2 : (n : Int) + 64 ≤ (m : Int) := by have := HRM.out; omega
                  clear hbp h5
                  by_cases h6 : u = qb
                  case neg =>
                    have t10 : ((u : Int) == (qb : Int)) = false := by simp; omega
                    have t10' : ((u : Int) != (qb : Int)) = true := by simp; omega
                    have HNX := Lib.hid (HSTOP.out (fun h => h6 h.2.2.2.2.2))
                    clear h6
                    go_wp2_with fail
                    refine HC16.out.mono ?_
                    rintro en w11 ⟨rfl, rfl⟩
                    go_wp2_with fail
                    refine HROOM.out.mono ?_
                    rintro en w11 ⟨rfl, rfl⟩
                    go_wp2_with fail
                    refine HCB.out.mono ?_
                    rintro en w11 ⟨rfl, rfl⟩
                    go_wp2
                    go_roundw
                    case rel => exact ⟨σ + 1, _, by have := HLT.out; omega, by go_num, Lib.hid (fun h => by cases h), HRS, Lib.hid (by rw [HNX.out]; exact HRZ.out)⟩
                    case measure => simp [intOf]; have := HLT.out; omega
                  have t10 : ((u : Int) == (qb : Int)) = true := by simp; omega
                  have t10' : ((u : Int) != (qb : Int)) = false := by simp; omega
                  have HGN := Lib.hid (HGO.out ⟨H1.out, H2.out, H3.out, H4.out, H5.out, h6⟩)
                  clear h6 HSTOP HGO
                  obtain ⟨A9, c9, A8, c8, hk9, _, _, k1, _, k3, _, _, _⟩ := HRZ.out.cells
                  obtain ⟨hh, hhas⟩ : ∃ hh, hasR j = hh := ⟨_, rfl⟩
                  rw [hhas] at k1
                  cases hh with
                  | true =>
                    by_cases h7 : j.gen < gen
                    · have t11 : decide ((j.gen : Int) < (gen : Int)) = true := by simp; omega
                      have t11n : decide (j.gen < gen) = true := by simp; omega
                      have HLT7 := Lib.hid h7
                      clear h7 hhas
                      have HNX : Hid (stJ s (σ + 1) = { j with slot := σ, gen := gen, last := bb }) := Lib.hid (by rw [HGN.out]; exact if_pos HLT7.out)
                      have HBL1 : Hid ((bytesV bb).length = n) := Lib.hid (by rw [length_bytesV, ← HBE.out, List.length_take, List.length_drop, HAL9.out]; have := HRM.out; have := H5.out; omega)
                      have HBN : Hid (n ≤ 131072) := Lib.hid (by have := HRM.out; have := H5.out; have := HM0.out; omega)
                      have HRJ : Hid (∀ A c, rjcells p (.slice A n c) { j with slot := σ, gen := gen, last := bb } = [.pointer (some ⟨p, 0, none⟩), .bool true, .int .i64 (σ : Int), .int .u32 (gen : Int), .slice A n c, .bool j.broken]) := Lib.hid (fun A c => by
                        unfold rjcells hasR slotR
                        simp only
                        rw [if_neg (by have := H4.out; omega), decide_eq_true (by have := H4.out; omega)])
                      have HLJ : Hid (lastJ { j with slot := σ, gen := gen, last := bb } = bb) := Lib.hid (by unfold lastJ; simp only; rw [if_neg (by have := H4.out; omega)])
                      go_wp2_with fail
                      refine HC16.out.mono ?_
                      rintro en w11 ⟨rfl, rfl⟩
                      go_wp2_with fail
                      refine HROOM.out.mono ?_
                      rintro en w11 ⟨rfl, rfl⟩
                      go_wp2_with fail
                      refine HCB.out.mono ?_
                      rintro en w11 ⟨rfl, rfl⟩
                      obtain ⟨bv, hr1, hr2⟩ := HRZ.out
                      obtain ⟨Av, cv, rfl⟩ := hr1.form1 hr2
                      have HD5 := Lib.hid hr1
                      clear hr1 hr2 HC16 HROOM HCB
                      go_upto_region 27 with fail
                      clear t6 t6' t7 t7' t8 t8n t9 t9n t10 t10' k1 k3 hk9
                      go_wp2_with (at_builtin; go_loud (refine wpList_extend elem_byte _ rfl (.const (.slice none 0 0)) (.tmp 138) rfl wr.heap.size 0 (.slice none 0 0) [] rfl (World.ownsRow_nil _ _ _ _) wr.heap.size (.slice (some ⟨g, o + 64, none⟩) n (c - 64)) (bytesV bb) (by go_simp) HBP.out (bytesV_one _) (by rw [HBL1.out]; have := HBN.out; unfold maxLen; omega) (by rw [HBL1.out]; have := HBN.out; omega) (Nat.le_refl _) ?_); go_loud (intro A6 c6 w6 hown6 hg6 hf6; rw [HBL1.out, Nat.zero_add, List.nil_append] at hown6; rw [HBL1.out]; simp only [Nat.zero_add] at hf6 ⊢; have hb6 := (Below.refl wr.heap.size wr).grown hg6 (Nat.le_refl _) (fun k hk => by cases hk); have D6 := Lib.hid (HD5.out.read hb6 (own_readsIn (T := fun i => wr.heap.size ≤ i) (by omega) hown6 (fun i hi => (hown6.lt i hi).1))); clear hown6 hg6 hf6 hb6; have hbk9 := D6.out.blk (.head _); have hl9 := hbk9.lt; have m1 := hbk9.cell 1; have m2 := hbk9.cell 2; have m3 := hbk9.cell 3; have m4 := hbk9.cell 4; have f1 := hbk9.free 1; have f2 := hbk9.free 2; have f3 := hbk9.free 3; have f4 := hbk9.free 4; simp only [rjcells, List.getElem?_cons_zero, List.getElem?_cons_succ] at m1 m2 m3 m4 f1 f2 f3 f4 hl9; clear hbk9))
                      have D10 := Lib.hid ((((D6.out.put 1 (.bool true)).put 2 (.int .i64 (σ : Int))).put 3 (.int .u32 (gen : Int))).put 4 (.slice A6 n c6))
                      clear m1 m2 m3 m4 f1 f2 f3 f4 hl9
                      go_roundw
                      case rel => exact ⟨σ + 1, _, by have := HLT.out; omega, by go_num, Lib.hid (fun h => by cases h), Lib.hid (HRS.out.trans (SubR.cons (1, .slice A6 n c6, bytesV bb) _)), Lib.hid (by rw [HNX.out]; exact ⟨.slice A6 n c6, by rw [HRJ.out]; exact D10.out, by rw [HLJ.out]; exact .head _⟩)⟩
                      case measure => simp [intOf]; have := HLT.out; omega
                    · have t11 : decide ((j.gen : Int) < (gen : Int)) = false := by simp; omega
                      have t11n : decide (j.gen < gen) = false := by simp; omega
                      have HNX : Hid (stJ s (σ + 1) = j) := Lib.hid (by rw [HGN.out]; exact if_neg h7)
                      clear h7 hhas
                      go_wp2_with fail
                      refine HC16.out.mono ?_
                      rintro en w11 ⟨rfl, rfl⟩
                      go_wp2_with fail
                      refine HROOM.out.mono ?_
                      rintro en w11 ⟨rfl, rfl⟩
                      go_wp2_with fail
                      refine HCB.out.mono ?_
                      rintro en w11 ⟨rfl, rfl⟩
                      go_wp2
                      go_roundw
                      case rel => exact ⟨σ + 1, _, by have := HLT.out; omega, by go_num, Lib.hid (fun h => by cases h), HRS, Lib.hid (by rw [HNX.out]; exact HRZ.out)⟩
                      case measure => simp [intOf]; have := HLT.out; omega
                  | false =>
                    have HLT7 : Hid (j.gen < gen) := Lib.hid (by
                      have h0 : j.gen = 0 := by unfold hasR at hhas; simpa using hhas
                      have := H4.out
                      omega)
                    clear hhas
                    have HNX : Hid (stJ s (σ + 1) = { j with slot := σ, gen := gen, last := bb }) := Lib.hid (by rw [HGN.out]; exact if_pos HLT7.out)
                    have HBL1 : Hid ((bytesV bb).length = n) := Lib.hid (by rw [length_bytesV, ← HBE.out, List.length_take, List.length_drop, HAL9.out]; have := HRM.out; have := H5.out; omega)
                    have HBN : Hid (n ≤ 131072) := Lib.hid (by have := HRM.out; have := H5.out; have := HM0.out; omega)
                    have HRJ : Hid (∀ A c, rjcells p (.slice A n c) { j with slot := σ, gen := gen, last := bb } = [.pointer (some ⟨p, 0, none⟩), .bool true, .int .i64 (σ : Int), .int .u32 (gen : Int), .slice A n c, .bool j.broken]) := Lib.hid (fun A c => by
                      unfold rjcells hasR slotR
                      simp only
                      rw [if_neg (by have := H4.out; omega), decide_eq_true (by have := H4.out; omega)])
                    have HLJ : Hid (lastJ { j with slot := σ, gen := gen, last := bb } = bb) := Lib.hid (by unfold lastJ; simp only; rw [if_neg (by have := H4.out; omega)])
                    go_wp2_with fail
                    refine HC16.out.mono ?_
                    rintro en w11 ⟨rfl, rfl⟩
                    go_wp2_with fail
                    refine HROOM.out.mono ?_
                    rintro en w11 ⟨rfl, rfl⟩
                    go_wp2_with fail
                    refine HCB.out.mono ?_
                    rintro en w11 ⟨rfl, rfl⟩
                    obtain ⟨bv, hr1, hr2⟩ := HRZ.out
                    obtain ⟨Av, cv, rfl⟩ := hr1.form1 hr2
                    have HD5 := Lib.hid hr1
                    clear hr1 hr2 HC16 HROOM HCB
                    go_upto_region 27 with fail
                    clear t6 t6' t7 t7' t8 t8n t9 t9n t10 t10' k1 k3 hk9
                    go_wp2_with (at_builtin; go_loud (refine wpList_extend elem_byte _ rfl (.const (.slice none 0 0)) (.tmp 138) rfl wr.heap.size 0 (.slice none 0 0) [] rfl (World.ownsRow_nil _ _ _ _) wr.heap.size (.slice (some ⟨g, o + 64, none⟩) n (c - 64)) (bytesV bb) (by go_simp) HBP.out (bytesV_one _) (by rw [HBL1.out]; have := HBN.out; unfold maxLen; omega) (by rw [HBL1.out]; have := HBN.out; omega) (Nat.le_refl _) ?_); go_loud (intro A6 c6 w6 hown6 hg6 hf6; rw [HBL1.out, Nat.zero_add, List.nil_append] at hown6; rw [HBL1.out]; simp only [Nat.zero_add] at hf6 ⊢; have hb6 := (Below.refl wr.heap.size wr).grown hg6 (Nat.le_refl _) (fun k hk => by cases hk); have D6 := Lib.hid (HD5.out.read hb6 (own_readsIn (T := fun i => wr.heap.size ≤ i) (by omega) hown6 (fun i hi => (hown6.lt i hi).1))); clear hown6 hg6 hf6 hb6; have hbk9 := D6.out.blk (.head _); have hl9 := hbk9.lt; have m1 := hbk9.cell 1; have m2 := hbk9.cell 2; have m3 := hbk9.cell 3; have m4 := hbk9.cell 4; have f1 := hbk9.free 1; have f2 := hbk9.free 2; have f3 := hbk9.free 3; have f4 := hbk9.free 4; simp only [rjcells, List.getElem?_cons_zero, List.getElem?_cons_succ] at m1 m2 m3 m4 f1 f2 f3 f4 hl9; clear hbk9))
                    have D10 := Lib.hid ((((D6.out.put 1 (.bool true)).put 2 (.int .i64 (σ : Int))).put 3 (.int .u32 (gen : Int))).put 4 (.slice A6 n c6))
                    clear m1 m2 m3 m4 f1 f2 f3 f4 hl9
                    go_roundw
                    case rel => exact ⟨σ + 1, _, by have := HLT.out; omega, by go_num, Lib.hid (fun h => by cases h), Lib.hid (HRS.out.trans (SubR.cons (1, .slice A6 n c6, bytesV bb) _)), Lib.hid (by rw [HNX.out]; exact ⟨.slice A6 n c6, by rw [HRJ.out]; exact D10.out, by rw [HLJ.out]; exact .head _⟩)⟩
                    case measure => simp [intOf]; have := HLT.out; omega
      · have hse : σ = 2 := by omega
        subst hse
        obtain rfl : dn = false := by
          cases dn with
          | false => rfl
          | true => have := hdz.out rfl; omega
        have HST : Hid (stJ s 2 = foundJ s) := Lib.hid rfl
        obtain ⟨⟨sf, ef⟩, hfe⟩ : ∃ q, s.flush = q := ⟨_, rfl⟩
        obtain ⟨⟨rf, ef'⟩, hfr⟩ : ∃ q, r.flush = q := ⟨_, rfl⟩
        obtain ⟨haw, hal2⟩ := HAL.out.flush (by have := HO.out; omega)
        rw [hfe, hfr] at haw hal2
        simp only at haw hal2
        subst haw
        have HAL2 := Lib.hid hal2
        have HOJ : Hid (openJ s = (sf, ef, foundJ s)) := Lib.hid (by unfold openJ; rw [if_neg (by have := HF2.out; have := HN.out; omega), if_neg (by rw [HD.out]; simp), hfe])
        have HOB : Hid (r.n < 1000000000) := Lib.hid (by rw [← HAL.out.ops]; have := HO.out; omega)
        have HFR := Lib.hid hfr
        obtain ⟨bv9, hrm9, hbv9⟩ := hkm.out
        rw [HST.out] at hrm9 hbv9
        have HRM9 := Lib.hid hrm9
        have HBV9 := Lib.hid hbv9
        have t2 : decide ((2 : Int) < 2) = false := by simp
        clear hfe hfr hal2 hrm9 hbv9 hkm hlt hσ hdz
        go_wp2_with fail
        refine (rflush_any HRM9.out HOB.out).mono ?_
        rw [HFR.out]
        rintro en4 w4 ⟨rfl, h⟩
        have R4 := Lib.hid h
        clear h HRM9
        by_cases hez : ef = 0
        · subst hez
          go_wp2
          refine bodyPost_ret (v := .tuple #[.pointer (some ⟨k, 0, none⟩), .int .i64 0]) (by simp [results, Try.results24, go_sem]) rfl ?_
          rw [HOJ.out]
          exact .inr ⟨rfl, k, rfl, rf, HAL2.out, rs, hsub.out, bv9, R4.out, HBV9.out⟩
        · have t4 : (ef != 0) = true := by simpa using hez
          go_wp2
          refine bodyPost_ret (v := .tuple #[.pointer none, .int .i64 ef]) (by simp [results, Try.results24, go_sem]) rfl ?_
          rw [HOJ.out]
          exact .inl ⟨by simpa using t4, rfl, rf, HAL2.out, (R4.out.dropB).sub hsub.out⟩
end
end Go.Proofs.Ytjddplddpdcmdaa
