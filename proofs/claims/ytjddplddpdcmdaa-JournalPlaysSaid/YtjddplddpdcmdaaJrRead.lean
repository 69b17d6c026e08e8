/- Contract of journal.Journal's read. -/
import Derived.Test.YtjddplddpdcmdaaJrMem
import Derived.Test.YtjddplddpdcmdaaReader3
namespace Go.Proofs.Ytjddplddpdcmdaa
open Go.RowKit
set_option linter.unusedVariables false
set_option linter.unusedSimpArgs false

section
variable {w0 w W W' : World} {ds ds' : List (Nat × Dk)} {bs bs' : List (Nat × TypeId × List Value)} {rs rs' rs0 : List (Nat × Value × List Value)} {d q g k n : Nat} {s s' : Dk} {j j' : Jr} {v u : Value} {t : TypeId} {cs : List Value}
theorem dm_readB (h : DM w0 W ((d, s) :: ds) bs rs) (i e : Int) (x : List UInt8) (hr : s.read i = (x, e)) :
    Calls Try.prog 17 #[.pointer (some ⟨d, 0, none⟩), .int .i64 i] W fun en W' => ∃ A n c, en = .returned (.tuple #[.slice A n c, .int .i64 e]) ∧ Below W.heap.size W W' ∧ ReadsIn 1 (fun i => W.heap.size ≤ i) W' (.slice A n c) (bytesV x) := by
  obtain ⟨O, U, h1, h2, h3, h4, h5, h6⟩ := h.open
  refine (sread_any h1 i _ hr).mono fun en W' ⟨hb, hc⟩ => ?_
  rcases hc with ⟨h7, h8, hc⟩ | ⟨h7, hl, g, he, hg, hk⟩
  · simp only at h8
    subst h8
    exact ⟨_, _, _, hc, hb, ReadsIn.nil_ _ _⟩
  · simp only at h7 hl he hk
    subst h7
    exact ⟨_, _, _, he, hb, (ReadsIn.of_blk hk (by rw [length_bytesV, hl]) (by unfold maxLen; omega)).imp (fun i hi _ => by omega)⟩
theorem Dk.read_at (hd : s.down = false) {k : Nat} (hk : k < s.now.length) : s.read (k : Int) = (s.now.getD k [], 0) := by
  unfold Dk.read
  rw [if_pos (Dk.hasI_of hk), hd]
  rfl
theorem Dk.read_down (hd : s.down = true) {k : Nat} (hk : k < s.now.length) : s.read (k : Int) = ([], 9) := by
  unfold Dk.read
  rw [if_pos (Dk.hasI_of hk), hd]
  rfl
theorem Dk.Ok.at64 (h : s.Ok) {k : Nat} (hk : k < s.now.length) : (s.now.getD k []).length = 64 := by
  rw [List.getD_eq_getElem?_getD, List.getElem?_eq_getElem hk]
  exact h.now _ (List.getElem_mem hk)
theorem gather_succ (s : Dk) (f k : Nat) : gatherJ s f (k + 1) = gatherJ s f k ++ s.now.getD (f + 1 + k) [] := by
  simp [gatherJ, List.range_succ]
theorem gather_len (h : s.Ok) {f : Nat} : ∀ k, f + k < s.now.length → (gatherJ s f k).length = k * 64
  | 0, _ => by simp [gatherJ]
  | k + 1, hk => by rw [gather_succ, List.length_append, gather_len h k (by omega), h.at64 (by omega)]; omega
theorem take_full {xs : List UInt8} {n : Nat} (h : n ≤ xs.length) (h0 : 0 < n) : takeOut xs 0 (n : Int) = xs.take n ∧ takeLeft xs 0 (n : Int) = xs.drop n ∧ takeErr xs 0 (n : Int) = 0 := by
  unfold takeOut takeLeft takeErr
  have h1 : ¬ ((0 : Int) ≠ 0 ∨ (n : Int) ≤ 0) := by omega
  have h2 : ¬ (xs.length : Int) < (n : Int) := by omega
  rw [if_neg h1, if_neg h2, if_neg h1, if_neg h2, if_neg h1, if_neg h2, Int.toNat_natCast]
  exact ⟨rfl, rfl, rfl⟩
theorem deB4 (xs : List UInt8) : deB (xs.take 4) < 4294967296 := by
  have h := deB_lt (xs.take 4).length (xs.take 4) rfl
  have h2 : (256 : Nat) ^ (xs.take 4).length ≤ 256 ^ 4 := Nat.pow_le_pow_right (by omega) (by simp; omega)
  have h3 : (256 : Nat) ^ 4 = 4294967296 := by decide
  omega
set_option maxHeartbeats 6400000 in
set_option maxRecDepth 100000 in
theorem jread_any (h : JD w0 W ds d s q j bs rs) (σ : Nat) (hσ : σ ≤ 1) (hdn : s.down = false) :
    Calls Try.prog 32 #[.pointer (some ⟨q, 0, none⟩), .int .i64 (σ : Int)] W fun en W' => ∃ A n c, en = .returned (.tuple #[.slice A n c, .int .u32 ((readJ s j.half σ).2 : Int), .int .i64 0]) ∧ Below W.heap.size W W' ∧ ReadsIn 1 (fun i => W.heap.size ≤ i) W' (.slice A n c) (bytesV (readJ s j.half σ).1) := by
  have HH := Lib.hid h
  obtain ⟨A0, c0, hq, k0, k1, k2, k3, k4, k5, hr⟩ := h.cells
  have hok := h.ok
  have hsk := h.sok
  obtain ⟨lv, hdm, hxa, hxb⟩ := h
  clear hxa hxb
  obtain ⟨N, hN⟩ : ∃ N, s.now.length = N := ⟨_, rfl⟩
  rw [hN] at hok
  obtain ⟨hf, hhf⟩ : ∃ hf, j.half = hf := ⟨_, rfl⟩
  have h1 := hok.half
  have h2 := hok.four
  have h3 := hok.most
  rw [hhf] at h1 k1
  obtain ⟨f, hfe⟩ : ∃ f, σ * hf = f := ⟨_, rfl⟩
  have hfb : f + hf ≤ N := by
    rcases Nat.le_one_iff_eq_zero_or_eq_one.1 hσ with rfl | rfl <;> omega
  have e1 : ((σ : Int) * (hf : Int)) = (f : Int) := by rw [← hfe]; simp
  have hfl : (f : Int) ≤ 4096 := by omega
  have hf0 : (0 : Int) ≤ (f : Int) := by omega
  obtain ⟨x, hx⟩ : ∃ x, s.now.getD f [] = x := ⟨_, rfl⟩
  have hxl : x.length = 64 := by rw [← hx]; exact hsk.at64 (by omega)
  have HRD : Hid (s.read (f : Int) = (x, 0)) := Lib.hid (by rw [← hx]; exact Dk.read_at hdn (by omega))
  obtain ⟨gen, hgen⟩ : ∃ g, deB ((x.drop 4).take 4) = g := ⟨_, rfl⟩
  obtain ⟨nn, hnn⟩ : ∃ g, deB ((x.drop 8).take 4) = g := ⟨_, rfl⟩
  have hg32 : gen < 4294967296 := by rw [← hgen]; exact deB4 _
  have hn32 : nn < 4294967296 := by rw [← hnn]; exact deB4 _
  have HRJ : Hid (readJ s hf σ = if gen = 0 ∨ (hf - 1) * 64 < nn then ([], 0) else if x = headB gen ((gatherJ s f (secsN nn)).take nn) then ((gatherJ s f (secsN nn)).take nn, gen) else ([], 0)) := Lib.hid (by
    unfold readJ
    simp only [hfe, hx, hgen, hnn])
  have HROOM : Hid (roomJ j = (hf - 1) * 64) := Lib.hid (by unfold roomJ; rw [hhf])
  obtain ⟨t1a, t1b, t1c⟩ := take_full (xs := x) (n := 4) (by omega) (by omega)
  obtain ⟨t2a, t2b, t2c⟩ := take_full (xs := x.drop 4) (n := 4) (by simp; omega) (by omega)
  obtain ⟨t3a, t3b, t3c⟩ := take_full (xs := x.drop 8) (n := 4) (by simp; omega) (by omega)
  rw [List.drop_drop] at t2b
  have T1 : Hid (takeLeft x 0 4 = x.drop 4 ∧ takeErr x 0 4 = 0) := Lib.hid (And.intro t1b t1c)
  have T2a : Hid (deB (takeOut (x.drop 4) 0 4) = gen) := Lib.hid (by rw [← hgen]; exact congrArg deB t2a)
  have T2 : Hid (takeLeft (x.drop 4) 0 4 = x.drop 8 ∧ takeErr (x.drop 4) 0 4 = 0) := Lib.hid (And.intro t2b t2c)
  have T3a : Hid (deB (takeOut (x.drop 8) 0 4) = nn) := Lib.hid (by rw [← hnn]; exact congrArg deB t3a)
  have HXL := Lib.hid hxl
  have HD := Lib.hid hdm
  have HSK := Lib.hid hsk
  have HDN := Lib.hid hdn
  have HN2 := Lib.hid hN
  have HFB := Lib.hid hfb
  have H4 := Lib.hid h2
  have HHF := Lib.hid hhf
  have HH1 := Lib.hid h1
  rw [hhf]
  clear h1 hok hsk hdm hN h2 hhf hfe hx hxl hgen hnn t1a t1b t1c t2a t2b t2c t3a t3b t3c hfb k2 k3 k4 k5 hr hdn hσ
  generalize readJ s hf σ = rj at HRJ ⊢
  go_enter Try.func32, Try.ntmps32
  go_wp2_with fail
  refine (dm_readB HD.out f 0 x HRD.out).mono ?_
  rintro en w1 ⟨A1, n1, c1, rfl, hb1, hr1⟩
  have HB1 := Lib.hid hb1
  have HR1 := Lib.hid hr1
  have p0 := (hb1.cell (p := ⟨q, 0, none⟩) hq).trans k0
  have hq1 : q < w1.heap.size := by have := hb1.size; omega
  clear hb1 hr1 HRD
  dsimp only
  go_wp2_with fail
  refine (newreader_any w1 w1.heap.size _ x HR1.out.reads (Nat.le_refl _) (by rw [HXL.out]; omega)).mono ?_
  rintro en w2 ⟨p, A2, c2, rfl, hrd, hps, hAs, hb2⟩
  have HRD2 := Lib.hid hrd
  have HPS := Lib.hid hps
  have HB2 := Lib.hid hb2
  clear hrd hps hAs hb2
  go_wp2_with fail
  refine (rraw_any w2 p A2 c2 x 0 4 HRD2.out (by rw [HXL.out]; omega)).mono ?_
  rintro en w3 ⟨A3, c3, B3, c3', rfl, _, hrd, _, hof⟩
  rw [T1.out.1, T1.out.2] at hrd
  have HRD3 := Lib.hid hrd
  have HB3 := Lib.hid (HB2.out.trans (hof.below HB2.out.size (fun i hi => by rw [hi]; exact HPS.out)))
  clear hrd hof HRD2
  go_wp2_with fail
  refine (ru32_any w3 p B3 c3' _ 0 HRD3.out (by rw [List.length_drop, HXL.out]; omega)).mono ?_
  rintro en w4 ⟨rfl, B4, c4, hrd, _, hof⟩
  rw [T2.out.1, T2.out.2] at hrd
  rw [T2a.out]
  have HRD4 := Lib.hid hrd
  have HB4 := Lib.hid (HB3.out.trans (hof.below HB3.out.size (fun i hi => by rw [hi]; exact HPS.out)))
  clear hrd hof HRD3
  go_wp2_with fail
  refine (ru32_any w4 p B4 c4 _ 0 HRD4.out (by rw [List.length_drop, HXL.out]; omega)).mono ?_
  rintro en w5 ⟨rfl, B5, c5, hrd, _, hof⟩
  rw [T3a.out]
  have HB5 := Lib.hid (HB4.out.trans (hof.below HB4.out.size (fun i hi => by rw [hi]; exact HPS.out)))
  clear hrd hof HRD4
  have hcn : IntKind.i64.wrap (nn : Int) = (nn : Int) := by rw [IntKind.wrap_i64]; omega
  clear HPS
  by_cases hg0 : gen = 0
  · have t0 : ((gen : Int) == 0) = true := by simp; omega
    have HE : Hid (rj = ([], 0)) := Lib.hid (by rw [HRJ.out, if_pos (.inl hg0)])
    clear hg0
    go_wp2
    refine bodyPost_ret (v := .tuple #[.slice none 0 0, .int .u32 0, .int .i64 0]) (by simp [results, Try.results32, go_sem]) rfl ?_
    rw [HE.out]
    exact ⟨none, 0, 0, rfl, HB1.out.trans (HB5.out.mono HB1.out.size), ReadsIn.nil_ _ _⟩
  · have t0 : ((gen : Int) == 0) = false := by simp; omega
    go_wp2_with fail
    refine (jroom_any ((HH.out.below HB1.out).below HB5.out)).mono ?_
    rw [HROOM.out]
    rintro en w6 ⟨rfl, rfl⟩
    by_cases hnr : (hf - 1) * 64 < nn
    · have t1 : decide ((((hf - 1) * 64 : Nat) : Int) < (nn : Int)) = true := by simp; omega
      have t2 : decide ((hf - 1) * 64 < nn) = true := by simp; omega
      have HE : Hid (rj = ([], 0)) := Lib.hid (by rw [HRJ.out, if_pos (.inr hnr)])
      clear hnr hg0
      generalize (hf - 1) * 64 = room at t1 t2 ⊢
      go_wp2
      refine bodyPost_ret (v := .tuple #[.slice none 0 0, .int .u32 0, .int .i64 0]) (by simp [results, Try.results32, go_sem]) rfl ?_
      rw [HE.out]
      exact ⟨none, 0, 0, rfl, HB1.out.trans (HB5.out.mono HB1.out.size), ReadsIn.nil_ _ _⟩
    · have t1 : decide ((((hf - 1) * 64 : Nat) : Int) < (nn : Int)) = false := by simp; omega
      have t2 : decide ((hf - 1) * 64 < nn) = false := by simp; omega
      have HRJ2 : Hid (rj = if x = headB gen ((gatherJ s f (secsN nn)).take nn) then ((gatherJ s f (secsN nn)).take nn, gen) else ([], 0)) := Lib.hid (by rw [HRJ.out, if_neg (by omega)])
      obtain ⟨m, hme⟩ : ∃ m, secsN nn = m := ⟨_, rfl⟩
      have hm1 : m ≤ hf - 1 := by rw [← hme]; unfold secsN; omega
      have hm2 : nn ≤ m * 64 := by rw [← hme]; unfold secsN; omega
      have HMB : Hid (f + 1 + m ≤ N) := Lib.hid (by have := HFB.out; have := H4.out; have := HH1.out; omega)
      have hm4 : m ≤ 4096 := by have := HMB.out; omega
      have HM2 := Lib.hid hm2
      have HME := Lib.hid hme
      have HNN : Hid (nn ≤ 140737488355328) := Lib.hid (by omega)
      rw [hme] at HRJ2
      clear hnr hg0 hm1 hm2 hme HRJ
      generalize (hf - 1) * 64 = room at t1 t2 ⊢
      go_wp2_with fail
      refine (jsecs_any w5 nn HNN.out).mono ?_
      rw [HME.out]
      rintro en w7 ⟨rfl, rfl⟩
      go_wp2
      go_loopw [56, 13] (fun i b wr => ∃ (k : Nat) (A : Option Addr) (c : Nat), k ≤ m ∧ i = .int .i64 k ∧ b = .slice A (k * 64) c ∧ Hid (wr.ownsRow w1.heap.size 5 1 (.slice A (k * 64) c) (k * 64) (bytesV (gatherJ s f k))) ∧ Hid (Below w1.heap.size w1 wr)) (fun i _ _ => m - (intOf i).toNat)
      case atStart => exact ⟨0, none, 0, by omega, rfl, rfl, Lib.hid (World.ownsRow_nil _ _ _ _), HB5⟩
      case round =>
        obtain ⟨k, A, c, hk, rfl, rfl, hown, hbl⟩ := hrel
        by_cases hlt : k < m
        · have p1 := (hbl.out.cell (p := ⟨q, 0, none⟩) hq1).trans p0
          have hqr : q < wr.heap.size := by have := hbl.out.size; omega
          obtain ⟨y, hy⟩ : ∃ y, s.now.getD (f + 1 + k) [] = y := ⟨_, rfl⟩
          have hkN : f + 1 + k < s.now.length := by rw [HN2.out]; have := HMB.out; omega
          have HRY : Hid (s.read ((f : Int) + 1 + (k : Int)) = (y, 0)) := Lib.hid (by
            rw [show (f : Int) + 1 + (k : Int) = ((f + 1 + k : Nat) : Int) by omega, ← hy]
            exact Dk.read_at HDN.out hkN)
          have HYL : Hid (y.length = 64) := Lib.hid (by rw [← hy]; exact HSK.out.at64 hkN)
          have HGS : Hid (gatherJ s f (k + 1) = gatherJ s f k ++ y) := Lib.hid (by rw [gather_succ, hy])
          have i1 : (k : Int) < (m : Int) := by omega
          have hk9 : (k : Int) ≤ 4096 := by omega
          clear hy hkN p0
          go_wp2_with fail
          refine (dm_readB ((HD.out.below HB1.out).below hbl.out) ((f : Int) + 1 + (k : Int)) 0 y HRY.out).mono ?_
          rintro en w8 ⟨A8, n8, c8, rfl, hb8, hr8⟩
          have HO8 := Lib.hid (own_below hown.out hb8)
          have HB8 := Lib.hid (hbl.out.trans (hb8.mono hbl.out.size))
          have HR8 := Lib.hid hr8.reads
          clear hb8 hr8 hown hbl
          dsimp only
          go_wp2_with (at_builtin; refine wpList_extend elem_byte _ rfl (.tmp 74) (.tmp 75) rfl w1.heap.size (k * 64) _ (bytesV (gatherJ s f k)) rfl HO8.out _ _ (bytesV y) rfl HR8.out (bytesV_one _) (by rw [length_bytesV, HYL.out]; unfold maxLen; omega) (by rw [length_bytesV, HYL.out]; omega) HB8.out.size ?_; intro A9 c9 w9 hown9 hg9 hf9; rw [length_bytesV, HYL.out, bytesV_append, ← HGS.out] at hown9; rw [length_bytesV, HYL.out]; have HB9 := Lib.hid (HB8.out.grown hg9 HB8.out.size (fun k hk => (HO8.out.lt k hk).1)))
          go_roundw
          case rel => exact ⟨k + 1, A9, c9, by omega, by go_num, by rw [Nat.succ_mul], Lib.hid (by rw [Nat.succ_mul]; exact hown9), HB9⟩
          case measure => simp [intOf]; omega
        · obtain rfl : k = m := by omega
          clear p0
          obtain ⟨bb, hbb⟩ : ∃ b, (gatherJ s f k).take nn = b := ⟨_, rfl⟩
          have hgl : (gatherJ s f k).length = k * 64 := gather_len HSK.out k (by rw [HN2.out]; have := HMB.out; omega)
          have HBL : Hid (bb.length = nn) := Lib.hid (by rw [← hbb, List.length_take, hgl]; have := HM2.out; omega)
          rw [hbb] at HRJ2
          have HG32 := Lib.hid hg32
          have HBL5 := hbl
          have HXR : Hid (Reads wr wr.heap.size (.slice A1 n1 c1) (bytesV x)) := Lib.hid ((HR1.out.reads.below hbl.out).more hbl.out.size)
          have hri : ReadsIn 1 (fun i => W.heap.size ≤ i) wr (.slice A nn c) (bytesV bb) := by
            obtain ⟨A9, n9, c9, e9, hl9, hc9, hm9, ha9⟩ := own_readsIn (T := fun i => w1.heap.size ≤ i) (by omega) hown.out (fun i hi => (hown.out.lt i hi).1)
            injection e9 with e1 e2 e3
            subst e1 e2 e3
            refine ⟨A, nn, c, rfl, by rw [length_bytesV, HBL.out]; omega, by have := HM2.out; omega, hm9, fun h0 => ?_⟩
            obtain ⟨g, o, e, h1, h2, h3⟩ := ha9.out (by have := HM2.out; omega)
            refine ⟨g, o, e, by have := HB1.out.size; omega, h2, fun i u hu => h3 i u ?_⟩
            rw [← hbb, ← bytesV_take, List.getElem?_take] at hu
            split at hu
            · exact hu
            · cases hu
          rcases hown.out.2 with ⟨e2, _⟩ | ⟨g, cap, cur, e2, hg1, hg2, hnc, hcm, _, _⟩
          · injection e2 with e2 e3 e4
            subst e2 e4
            have hnn0 : nn = 0 := by have := HM2.out; omega
            subst hnn0
            have HRI := Lib.hid hri
            have HRD := Lib.hid hri.reads
            rw [e3]
            clear hgl hbb hri hown e3 hbl
            go_wp2_with fail
            refine (head_any wr wr.heap.size _ bb HRD.out (Nat.le_refl _) gen HG32.out (by rw [HBL.out]; omega)).mono ?_
            rintro en w8 ⟨A8, c8, rfl, hown8, hb8⟩
            rw [headB_len]
            have HO8 := Lib.hid (Reads.of_own hown8)
            rw [headB_len] at HO8
            have HB8 := Lib.hid ((HB1.out.trans (HBL5.out.mono HB1.out.size)).trans (hb8.mono (Nat.le_trans HB1.out.size HBL5.out.size)))
            have HRI8 := Lib.hid (HRI.out.below hb8)
            have HX8 := Lib.hid ((HXR.out.below hb8).more hb8.size)
            clear hown8 hb8
            by_cases hxe : x = headB gen bb
            · have HE : Hid (rj = (bb, gen)) := Lib.hid (by rw [HRJ2.out, if_pos hxe])
              have HQ := Lib.hid (show (x == headB gen bb) = true by rw [← hxe]; simp)
              clear hxe
              go_wp2_with fail
              refine (equal_bytes x (headB gen bb) _ _ w8 _ _ HX8.out HO8.out true HQ.out).mono ?_
              rintro en w9 ⟨rfl, nd, rfl⟩
              go_wp2
              refine bodyPost_ret (v := .tuple #[.slice none 0 0, .int .u32 (gen : Int), .int .i64 0]) (by simp [results, Try.results32, go_sem]) rfl ?_
              rw [HE.out]
              exact ⟨_, _, _, rfl, HB8.out.trans ⟨rfl, rfl, rfl, Nat.le_refl _, fun _ _ => rfl⟩, HRI8.out.drewN _⟩
            · have HE : Hid (rj = ([], 0)) := Lib.hid (by rw [HRJ2.out, if_neg hxe])
              have HQ := Lib.hid (beq_eq_false_iff_ne.2 hxe)
              clear hxe
              go_wp2_with fail
              refine (equal_bytes x (headB gen bb) _ _ w8 _ _ HX8.out HO8.out false HQ.out).mono ?_
              rintro en w9 ⟨rfl, nd, rfl⟩
              go_wp2
              refine bodyPost_ret (v := .tuple #[.slice none 0 0, .int .u32 0, .int .i64 0]) (by simp [results, Try.results32, go_sem]) rfl ?_
              rw [HE.out]
              exact ⟨_, _, _, rfl, HB8.out.trans ⟨rfl, rfl, rfl, Nat.le_refl _, fun _ _ => rfl⟩, ReadsIn.nil_ _ _⟩
          · injection e2 with e2 e3 e4
            subst e2 e4
            have s1 : (nn : Int) ≤ (c : Int) := by have := HM2.out; omega
            have HRI := Lib.hid hri
            have HRD := Lib.hid hri.reads
            clear hgl hbb hri hown e3 hbl hg1 hg2
            go_wp2_with fail
            refine (head_any wr wr.heap.size _ bb HRD.out (Nat.le_refl _) gen HG32.out (by rw [HBL.out]; omega)).mono ?_
            rintro en w8 ⟨A8, c8, rfl, hown8, hb8⟩
            rw [headB_len]
            have HO8 := Lib.hid (Reads.of_own hown8)
            rw [headB_len] at HO8
            have HB8 := Lib.hid ((HB1.out.trans (HBL5.out.mono HB1.out.size)).trans (hb8.mono (Nat.le_trans HB1.out.size HBL5.out.size)))
            have HRI8 := Lib.hid (HRI.out.below hb8)
            have HX8 := Lib.hid ((HXR.out.below hb8).more hb8.size)
            clear hown8 hb8
            by_cases hxe : x = headB gen bb
            · have HE : Hid (rj = (bb, gen)) := Lib.hid (by rw [HRJ2.out, if_pos hxe])
              have HQ := Lib.hid (show (x == headB gen bb) = true by rw [← hxe]; simp)
              clear hxe
              go_wp2_with fail
              refine (equal_bytes x (headB gen bb) _ _ w8 _ _ HX8.out HO8.out true HQ.out).mono ?_
              rintro en w9 ⟨rfl, nd, rfl⟩
              go_wp2
              refine bodyPost_ret (v := .tuple #[.slice (some ⟨g, 0, none⟩) nn c, .int .u32 (gen : Int), .int .i64 0]) (by simp [results, Try.results32, go_sem]) rfl ?_
              rw [HE.out]
              exact ⟨_, _, _, rfl, HB8.out.trans ⟨rfl, rfl, rfl, Nat.le_refl _, fun _ _ => rfl⟩, HRI8.out.drewN _⟩
            · have HE : Hid (rj = ([], 0)) := Lib.hid (by rw [HRJ2.out, if_neg hxe])
              have HQ := Lib.hid (beq_eq_false_iff_ne.2 hxe)
              clear hxe
              go_wp2_with fail
              refine (equal_bytes x (headB gen bb) _ _ w8 _ _ HX8.out HO8.out false HQ.out).mono ?_
              rintro en w9 ⟨rfl, nd, rfl⟩
              go_wp2
              refine bodyPost_ret (v := .tuple #[.slice none 0 0, .int .u32 0, .int .i64 0]) (by simp [results, Try.results32, go_sem]) rfl ?_
              rw [HE.out]
              exact ⟨_, _, _, rfl, HB8.out.trans ⟨rfl, rfl, rfl, Nat.le_refl _, fun _ _ => rfl⟩, ReadsIn.nil_ _ _⟩
set_option maxHeartbeats 1600000 in
set_option maxRecDepth 100000 in
theorem jread_down (h : JD w0 W ds d s q j bs rs) (σ : Nat) (hσ : σ ≤ 1) (hdn : s.down = true) :
    Calls Try.prog 32 #[.pointer (some ⟨q, 0, none⟩), .int .i64 (σ : Int)] W fun en W' => en = .returned (.tuple #[.slice none 0 0, .int .u32 0, .int .i64 9]) ∧ Below W.heap.size W W' := by
  obtain ⟨A0, c0, hq, k0, k1, k2, k3, k4, k5, hr⟩ := h.cells
  have hok := h.ok
  obtain ⟨lv, hdm, hxa, hxb⟩ := h
  clear hxa hxb
  obtain ⟨N, hN⟩ : ∃ N, s.now.length = N := ⟨_, rfl⟩
  rw [hN] at hok
  obtain ⟨hf, hhf⟩ : ∃ hf, j.half = hf := ⟨_, rfl⟩
  have h1 := hok.half
  have h2 := hok.four
  have h3 := hok.most
  rw [hhf] at h1 k1
  obtain ⟨f, hfe⟩ : ∃ f, σ * hf = f := ⟨_, rfl⟩
  have hfb : f + hf ≤ N := by
    rcases Nat.le_one_iff_eq_zero_or_eq_one.1 hσ with rfl | rfl <;> omega
  have e1 : ((σ : Int) * (hf : Int)) = (f : Int) := by rw [← hfe]; simp
  have hfl : (f : Int) ≤ 4096 := by omega
  have hf0 : (0 : Int) ≤ (f : Int) := by omega
  have HRD : Hid (s.read (f : Int) = ([], 9)) := Lib.hid (Dk.read_down hdn (by omega))
  have HD := Lib.hid hdm
  have T1 : Hid (takeLeft [] 0 4 = [] ∧ takeErr [] 0 4 = 4) := Lib.hid ⟨by simp [takeLeft], by simp [takeErr]⟩
  have T2 : Hid (takeLeft [] 4 4 = [] ∧ takeErr [] 4 4 = 4 ∧ deB (takeOut [] 4 4) = 0) := Lib.hid ⟨by simp [takeLeft], by simp [takeErr], by simp [takeOut, deB]⟩
  clear hok hdm hN h1 h2 hhf hfe hfb k2 k3 k4 k5 hr hdn hσ
  go_enter Try.func32, Try.ntmps32
  go_wp2_with fail
  refine (dm_readB HD.out f 9 [] HRD.out).mono ?_
  rintro en w1 ⟨A1, n1, c1, rfl, hb1, hr1⟩
  have HB1 := Lib.hid hb1
  have HR1 := Lib.hid hr1
  clear hb1 hr1 HRD
  dsimp only
  go_wp2_with fail
  refine (newreader_any w1 w1.heap.size _ [] HR1.out.reads (Nat.le_refl _) (by simp)).mono ?_
  rintro en w2 ⟨p, A2, c2, rfl, hrd, hps, hAs, hb2⟩
  have HRD2 := Lib.hid hrd
  have HPS := Lib.hid hps
  have HB2 := Lib.hid hb2
  clear hrd hps hAs hb2
  go_wp2_with fail
  refine (rraw_any w2 p A2 c2 [] 0 4 HRD2.out (by simp)).mono ?_
  rintro en w3 ⟨A3, c3, B3, c3', rfl, _, hrd, _, hof⟩
  rw [T1.out.1, T1.out.2] at hrd
  have HRD3 := Lib.hid hrd
  have HB3 := Lib.hid (HB2.out.trans (hof.below HB2.out.size (fun i hi => by rw [hi]; exact HPS.out)))
  clear hrd hof HRD2
  go_wp2_with fail
  refine (ru32_any w3 p B3 c3' _ 4 HRD3.out (by simp)).mono ?_
  rintro en w4 ⟨rfl, B4, c4, hrd, _, hof⟩
  rw [T2.out.1, T2.out.2.1] at hrd
  rw [T2.out.2.2]
  have HRD4 := Lib.hid hrd
  have HB4 := Lib.hid (HB3.out.trans (hof.below HB3.out.size (fun i hi => by rw [hi]; exact HPS.out)))
  clear hrd hof HRD3
  go_wp2_with fail
  refine (ru32_any w4 p B4 c4 _ 4 HRD4.out (by simp)).mono ?_
  rintro en w5 ⟨rfl, B5, c5, hrd, _, hof⟩
  rw [T2.out.2.2]
  have HB5 := Lib.hid (HB4.out.trans (hof.below HB4.out.size (fun i hi => by rw [hi]; exact HPS.out)))
  clear hrd hof HRD4 HPS
  go_wp2
  refine bodyPost_ret (v := .tuple #[.slice none 0 0, .int .u32 0, .int .i64 9]) (by simp [results, Try.results32, go_sem]) rfl ?_
  exact ⟨rfl, HB1.out.trans (HB5.out.mono HB1.out.size)⟩
end
end Go.Proofs.Ytjddplddpdcmdaa
