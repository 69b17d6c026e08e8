/- Contract of the reference's journal's write. -/
import Derived.Test.YtjddplddpdcmdaaJrRM
import Derived.Test.YtjddplddpdcmdaaJrCommit
import Derived.Test.YtjddplddpdcmdaaRefU
namespace Go.Proofs.Ytjddplddpdcmdaa
open Go.RowKit
set_option linter.unusedVariables false
set_option linter.unusedSimpArgs false

/-- append(v, x...) where v is full, read only: a new row -/
theorem wpList_grow {P : Program} {T E : TypeId} {z : Value} {bytes : Nat} (he : ElemOf P T E z bytes) (w : World) {ops : Array Oper} {rest : List Oper} {o : Oper} {a : Act} {Q : Exit → Act → World → Prop} (hgd : o.guard = none) (s x : Operand)
    (ho : o.op = .call { callee := .builtin .append, args := #[s, x], argTypes := #[T, T] })
    (B0 g f n : Nat) (xs : List Value) (hs : a.eval s = .slice (some ⟨g, f, none⟩) n n) (hr0 : Reads w B0 (.slice (some ⟨g, f, none⟩) n n) xs) (hn0 : 0 < n)
    (B : Nat) (xv : Value) (news : List Value) (hx : a.eval x = xv) (hr : Reads w B xv news) (h0 : 0 < news.length)
    (h63 : n + news.length ≤ maxLen) (hbytes : (n + news.length) * bytes ≤ 140737488355328)
    (h : ∀ A c w', w'.ownsRow w.heap.size E 1 (.slice A (n + news.length) c) (n + news.length) (xs ++ news) → Below w.heap.size w w' → wpList P ops Q rest (a.put o.dst (.slice A (n + news.length) c)) w') : wpList P ops Q (o :: rest) a w := by
  obtain ⟨A, m, c, rfl, hl, hc, hm, hat⟩ := hr
  subst hl
  obtain ⟨g', o', rfl, hg, hxx⟩ := hat.out (by omega)
  obtain ⟨A0, m0, c0, e0, hx0, _, _, hat0⟩ := hr0
  injection e0 with e1 e2 e3
  subst e1 e2 e3
  obtain ⟨g9, f9, e9, _, hcell⟩ := hat0.out hn0
  injection e9 with e9
  injection e9 with e1 e2
  subst e1 e2
  obtain ⟨i, hi, hz, hsz, hb⟩ := info_parts he.info
  have h63' : n + news.length ≤ 9223372036854775807 := by simp only [maxLen] at h63; omega
  have hr := run_append_grow (P := P) w T o.type E i z he.und hi hz ⟨g, f, none⟩ n n xs (by rw [hx0, hsz]; omega) (fun j u hu => by rw [addr_add]; exact hcell j u hu) ⟨g', o', none⟩ news.length c news (by rw [hsz]; omega) (fun j u hu => by rw [addr_add]; exact hxx j u hu) (by omega) (by omega) (growslice_fits (by omega) (by rw [hb]; exact hbytes))
  have hge := grownCap_ge w (n + news.length) n E
  have hcm2 : grownCap w (n + news.length) n E ≤ maxLen := grownCap_le_maxLen w (n + news.length) n E h63
  have hbl : ∀ o, Below w.heap.size w (w.drew.alloc o) := fun o => ((⟨rfl, rfl, rfl, Nat.le_refl _, fun _ _ => rfl⟩ : Below w.heap.size w w.drew)).alloc (Nat.le_refl _) o
  refine wpList_plain hgd fun K hK => ?_
  unfold Oper.wp execOp
  simp only [ho, resolve, invoke, builtin, Sem.run_bind, Sem.run_pure, Result.andThen_ok, List.map_toArray, List.map_cons, List.map_nil, hs, hx, hr]
  refine hK _ _ (h (some ⟨w.heap.size, 0, none⟩) (grownCap w (n + news.length) n E) _ ⟨by rw [List.length_append, hx0]; omega, .inr ⟨w.heap.size, _, _, rfl, Nat.le_refl _, heap_alloc_new w.drew _, hge, hcm2, ?_, ?_⟩⟩ (hbl _))
  · simp only [Array.size_append, List.size_toArray, size_zeroCells, he.one, hx0]
    simp
    omega
  · simp only [Array.toList_append, List.append_assoc]
    rw [← List.append_assoc]
    exact List.take_left' (by rw [List.length_append, hx0]; omega)
section
variable {w0 w w' W W' w1 w2 : World} {ds ds' : List (Nat × Dk)} {bs bs' : List (Nat × TypeId × List Value)} {rs rs' rs0 : List (Nat × Value × List Value)} {p d g k n sz : Nat} {s : Dk} {r r' : Rk} {v u : Value} {t : TypeId} {cs cs' xs : List Value} {j : Jr}
theorem RM.turn (h : RM w0 W ds p r ((g, t, cs) :: bs) rs0) (ho : Off (fun i => i = g) W W') (hk : Blk W' g t cs') : RM w0 W' ds p r ((g, t, cs') :: bs) rs0 :=
  h.lift fun b rs _ h2 => ((h2.permB (.swap _ _ _)).turn ho hk).permB (.swap _ _ _)
/-- what stays below, with a reading more -/
theorem RM.read (h : RM w0 W ds p r bs rs0) (hb : Below W.heap.size W W') (hr : ReadsIn sz (fun i => W.heap.size ≤ i) W' v xs) : RM w0 W' ds p r bs ((sz, v, xs) :: rs0) := by
  obtain ⟨sv, wv, rs, h1, h2, h3⟩ := h
  refine ⟨sv, wv, (sz, v, xs) :: rs, fun z hz => ?_, h2.read hb hr, h3.mono (fun z hz => .tail _ hz)⟩
  rcases List.mem_cons.1 hz with rfl | hz
  · exact .head _
  · exact .tail _ (h1 z hz)
theorem Reads.partA {B g o n c a : Nat} {xs : List UInt8} (h : Reads w B (.slice (some ⟨g, o, none⟩) n c) (bytesV xs)) (hab : a ≤ n) : Reads w B (.slice (some ⟨g, o + a, none⟩) (n - a) (c - a)) (bytesV ((xs.drop a).take (n - a))) := by
  obtain ⟨A', n', c', e, hl, hc, hm, ha⟩ := h
  injection e with e1 e2 e3
  subst e1 e2 e3
  rw [length_bytesV] at hl
  refine ⟨_, _, _, rfl, by rw [length_bytesV, List.length_take, List.length_drop]; omega, by omega, by omega, fun hn => ?_⟩
  obtain ⟨g', o', e, hg, hx⟩ := ha.out (by omega)
  injection e with e
  injection e with e1 e2
  subst e1 e2
  refine ⟨g, o + a, rfl, hg, fun i u hu => ?_⟩
  rw [← bytesV_take, ← bytesV_drop, List.getElem?_take] at hu
  split at hu
  · rw [List.getElem?_drop] at hu
    rw [Nat.add_assoc]
    exact hx _ _ hu
  · cases hu
theorem chunk_copy (b : List UInt8) {i : Nat} (h : i < secsN b.length) : ((b.drop (i * 64)).take (b.length - i * 64)).take 64 ++ (List.replicate 64 (0 : UInt8)).drop ((b.drop (i * 64)).take (b.length - i * 64)).length = chunkJ b i := by
  have h1 : i * 64 ≤ b.length := by unfold secsN at h; omega
  rw [List.take_of_length_le (l := b.drop (i * 64)) (by rw [List.length_drop]; omega)]
  unfold chunkJ padJ
  rw [List.drop_append_of_le_length h1, List.take_append, List.drop_replicate, List.take_replicate, List.length_drop]
  congr 2
  unfold secsN at h ⊢
  omega
set_option maxHeartbeats 6400000 in
set_option maxRecDepth 100000 in
theorem kwrite_any (h : KM w0 W ds p r k j bs rs0) (ha : Alike s r) (hj : j.Ok s.now.length) (ho : s.ops < 900000000) (σ : Nat) (hσ : σ ≤ 1) (hg : j.gen < 4294967295) (v : Value) (b : List UInt8) (hb : ArgM w0 bs rs0 v b) (hbl : b.length ≤ roomJ j) :
    Calls Try.prog 46 #[.pointer (some ⟨k, 0, none⟩), .int .i64 (σ : Int), v] W fun en W' => ∃ r', en = .returned (.int .i64 (writeJ s j.half σ (j.gen + 1) b).2) ∧ Alike (writeJ s j.half σ (j.gen + 1) b).1 r' ∧ KM w0 W' ds p r' k j bs rs0 := by
  have HK := Lib.hid h
  obtain ⟨bv, hrm, hbv⟩ := h
  have hA := hrm.argReads (hb.mono (bs' := (k, 81, rjcells p bv j) :: bs) (fun y hy => .tail _ hy) (fun y hy => hy))
  obtain ⟨Ab, cb, rfl, _, hcm⟩ := hA.form
  obtain ⟨N, hN⟩ : ∃ N, s.now.length = N := ⟨_, rfl⟩
  rw [hN] at hj
  obtain ⟨hf, hhf⟩ : ∃ hf, j.half = hf := ⟨_, rfl⟩
  have h1 := hj.half
  have h2 := hj.four
  have h3 := hj.most
  rw [hhf] at h1
  have HHF : Hid (r.sure.length / 2 = hf) := Lib.hid (by rw [← ha.len, hN, h1])
  obtain ⟨f, hfe⟩ : ∃ f, σ * hf = f := ⟨_, rfl⟩
  have hfb : f + hf ≤ N := by
    rcases Nat.le_one_iff_eq_zero_or_eq_one.1 hσ with rfl | rfl <;> omega
  have e1 : ((σ : Int) * (hf : Int)) = (f : Int) := by rw [← hfe]; simp
  have hfl : (f : Int) ≤ 4096 := by omega
  have hf0 : (0 : Int) ≤ (f : Int) := by omega
  obtain ⟨n, hn⟩ : ∃ n, b.length = n := ⟨_, rfl⟩
  have hn1 : n ≤ (hf - 1) * 64 := by have := hbl; unfold roomJ at this; omega
  obtain ⟨m, hm⟩ : ∃ m, secsN n = m := ⟨_, rfl⟩
  have hmb : m + 1 ≤ hf := by rw [← hm]; unfold secsN; omega
  have hnm : n ≤ m * 64 ∧ m * 64 ≤ n + 63 := by rw [← hm]; unfold secsN; omega
  obtain ⟨gen, hge⟩ : ∃ gen, j.gen + 1 = gen := ⟨_, rfl⟩
  have HW : Hid (writeJ s j.half σ gen b = thenJ (thenJ (thenJ (putsJ b f m 0 s) Dk.flush) (fun s => s.write (f : Int) (headB gen b))) Dk.flush) := Lib.hid (by unfold writeJ; rw [hhf, hfe, hn, hm])
  rw [length_bytesV, hn] at hA hb ⊢
  have HCK : Hid (∀ i, i < m → ((b.drop (i * 64)).take (n - i * 64)).take 64 ++ (List.replicate 64 (0 : UInt8)).drop ((b.drop (i * 64)).take (n - i * 64)).length = chunkJ b i) := Lib.hid (fun i hi => by rw [← hn]; exact chunk_copy b (by rw [hn, hm]; exact hi))
  have HCL : Hid (∀ i, i < m → (chunkJ b i).length = 64) := Lib.hid (fun i hi => chunkJ_len b (by rw [hn, hm]; exact hi))
  have HHL := Lib.hid (headB_len gen b)
  have HARG := Lib.hid hb
  have HN := Lib.hid hn
  have HM := Lib.hid hm
  have HRM := Lib.hid hrm
  have HBV := Lib.hid hbv
  have HR := Lib.hid hA
  have HGE := Lib.hid hge
  have HG : Hid (gen < 4294967296) := Lib.hid (by omega)
  have HO := Lib.hid ho
  have HAL := Lib.hid ha
  have HN4 : Hid (n < 4294967296) := Lib.hid (by omega)
  have HNM := Lib.hid hnm
  have HMB : Hid (m ≤ 4096 ∧ n ≤ 262144) := Lib.hid (by omega)
  have HCM : Hid (n ≤ cb ∧ cb ≤ maxLen) := Lib.hid (And.intro (by rename_i hx; rw [length_bytesV, hn] at hx; exact hx) hcm)
  have hmk : ∀ (W : World), (Instr.makeSlice 31 (.int .i64 64) (.int .i64 64)).run Try.prog W = .ok (.slice (some ⟨W.heap.size, 0, none⟩) 64 64) (W.alloc (.cells (zerosA (.int .u8 0) 64) 5)) := fun W => by
    obtain ⟨i, hi, hz, hs, hb⟩ := info_parts elem_byte.info
    exact run_make1 31 5 i _ elem_byte.und hi hz hs rfl .i64 .i64 64 (by rw [hb]; omega) (by omega) W
  have HMK := Lib.hid hmk
  rw [hge]
  generalize writeJ s j.half σ gen b = rw_ at HW ⊢
  rename_i hx
  clear hrm hbv hA hcm hj hN h1 h2 h3 hhf hfe hfb hn hn1 hm hmb hnm hge hb hg ho hσ hbl ha hmk hx
  go_enter Try.func46, Try.ntmps46
  go_wp2_with fail
  refine (khalf_any HK.out hf HHF.out).mono ?_
  rintro en w1 ⟨rfl, rfl⟩
  go_wp2
  have HP0 : Hid (putsJ b f m 0 s = putsJ b f (m - 0) 0 s) := Lib.hid rfl
  go_loopw [8] (fun i wr => ∃ (kk : Nat) (s' : Dk) (r' : Rk), kk ≤ m ∧ i = .int .i64 ((kk * 64 : Nat) : Int) ∧ Hid (putsJ b f m 0 s = putsJ b f (m - kk) kk s') ∧ Hid (s'.ops ≤ s.ops + kk) ∧ Hid (Alike s' r') ∧ Hid (RM w0 wr ds p r' ((k, 81, rjcells p bv j) :: bs) rs0)) (fun i _ => m * 64 - (intOf i).toNat)
  case atStart => exact ⟨0, s, r, by omega, rfl, HP0, Lib.hid (by omega), HAL, HRM⟩
  case round =>
    obtain ⟨kk, s', r', hk, rfl, hps, hops, hal, hrm⟩ := hrel
    clear HP0 HRM HAL
    obtain ⟨a, hae⟩ : ∃ a, kk * 64 = a := ⟨_, rfl⟩
    rw [hae]
    have HAE := Lib.hid hae
    have hbj : Blk wr k 81 (rjcells p bv j) := hrm.out.blk (.head _)
    have k0 := hbj.cell 0
    have hkr := hbj.lt
    simp only [rjcells, List.getElem?_cons_zero] at k0
    by_cases hlt : kk < m
    · have hnm := HNM.out
      have hmb := HMB.out
      have hcm := HCM.out
      have t1 : decide ((a : Int) < (n : Int)) = true := by simp; omega
      have t1n : decide (a < n) = true := by simp; omega
      have y3 : ¬ cb = a := by omega
      have a0 : (0 : Int) ≤ (a : Int) := by omega
      have a1 : (a : Int) ≤ (n : Int) := by omega
      have a2 : (n : Int) ≤ (cb : Int) := by omega
      have a3 : (a : Int) ≤ 262144 := by omega
      have a4 : (a : Int).tdiv 64 = (kk : Int) := by rw [Int.tdiv_eq_ediv_of_nonneg (by omega)]; omega
      have a5 : (kk : Int) ≤ 4096 := by omega
      have a6 : (0 : Int) ≤ (kk : Int) := by omega
      have hrd := hrm.out.argReads (HARG.out.mono (bs' := (k, 81, rjcells p bv j) :: bs) (fun y hy => .tail _ hy) (fun y hy => hy))
      obtain ⟨A3, n3, c3, e3, hl3, hc3, hm3, ha3⟩ := hrd
      have hrd := hrm.out.argReads (HARG.out.mono (bs' := (k, 81, rjcells p bv j) :: bs) (fun y hy => .tail _ hy) (fun y hy => hy))
      injection e3 with e3 e4 e5
      subst e3 e4 e5
      obtain ⟨ga, oa, rfl, _, _⟩ := ha3.out (by omega)
      have HRD := Lib.hid hrd
      clear hl3 ha3 hbj hrd hae hnm hmb hcm hc3 hm3
      go_upto_region 6 with fail
      rw [HMK.out]
      have kz : Blk (wr.alloc (.cells (zerosA (.int .u8 0) 64) 5)) wr.heap.size 5 (bytesV (List.replicate 64 0)) := by
        have h := Blk.freshA wr 5 (zerosA (.int .u8 0) 64)
        rw [zerosA_toList] at h
        exact h
      have R3 := Lib.hid (hrm.out.more ((Below.refl _ wr).alloc (Nat.le_refl _) (.cells (zerosA (.int .u8 0) 64) 5)) (Nat.le_refl _) kz)
      have hb3 : Below wr.heap.size wr (wr.alloc (.cells (zerosA (.int .u8 0) 64) 5)) := (Below.refl _ wr).alloc (Nat.le_refl _) _
      have k3 := (hb3.cell (p := ⟨k, 0, none⟩) hkr).trans k0
      have hk3 : k < (wr.alloc (.cells (zerosA (.int .u8 0) 64) 5)).heap.size := by have := hb3.size; omega
      have hgk : wr.heap.size ≠ k := by omega
      have HRD3 := Lib.hid (HRD.out.below hb3)
      clear kz hb3 k0 hkr HRD
      generalize wr.heap.size = g at R3 hgk HRD3 ⊢
      generalize (wr.alloc (.cells (zerosA (.int .u8 0) 64) 5)) = wA at R3 k3 hk3 HRD3 ⊢
      have HRP := Lib.hid (Reads.partA HRD3.out (a := a) (by omega))
      have hk3' := R3.out.blk (.head _)
      simp only at hk3'
      have HB3 := Lib.hid hk3'
      obtain ⟨ys, hys⟩ : ∃ ys, (b.drop a).take (n - a) = ys := ⟨_, rfl⟩
      have HCKk : Hid (ys.take 64 ++ (List.replicate 64 (0 : UInt8)).drop ys.length = chunkJ b kk) := Lib.hid (by rw [← hys, ← HAE.out]; exact HCK.out kk hlt)
      rw [hys] at HRP
      have HCLk := Lib.hid (HCL.out kk hlt)
      clear hk3' hys HRD3
      obtain ⟨⟨sn, en⟩, hwe⟩ : ∃ q, s'.write ((f : Int) + 1 + (kk : Int)) (chunkJ b kk) = q := ⟨_, rfl⟩
      obtain ⟨⟨rn, en'⟩, hwr⟩ : ∃ q, r'.write ((f : Int) + 1 + (kk : Int)) (chunkJ b kk) = q := ⟨_, rfl⟩
      obtain ⟨haw, hal2⟩ := hal.out.write (by have := hops.out; have := HO.out; have := HMB.out; omega) ((f : Int) + 1 + (kk : Int)) (chunkJ b kk)
      rw [hwe, hwr] at haw hal2
      simp only at haw hal2
      subst haw
      have HAL2 := Lib.hid hal2
      have hso : sn.ops ≤ s'.ops + 1 := by have := write_ops s' ((f : Int) + 1 + (kk : Int)) (chunkJ b kk); rwa [hwe] at this
      have HSO : Hid (sn.ops ≤ s.ops + ((kk + 1 : Nat) : Int)) := Lib.hid (by have := hops.out; omega)
      have HWR := Lib.hid hwr
      have HPS2 : Hid (putsJ b f m 0 s = if en ≠ 0 then (sn, en) else putsJ b f (m - (kk + 1)) (kk + 1) sn) := Lib.hid (by
        rw [hps.out, show m - kk = (m - (kk + 1)) + 1 by omega, putsJ]
        rw [show ((f + 1 + kk : Nat) : Int) = (f : Int) + 1 + (kk : Int) by omega, hwe])
      have HOB : Hid (r'.n < 1000000000) := Lib.hid (by rw [← hal.out.ops]; have := hops.out; have := HO.out; have := HMB.out; omega)
      clear hso hwe hwr hal2 hal
      go_wp2_with (refine wpList_copy_bytes rfl (.tmp 25) (.tmp 28) rfl g g 64 (List.replicate 64 0) ys (.slice (some ⟨ga, oa + a, none⟩) (n - a) (cb - a)) rfl rfl HB3.out (by simp) HRP.out ?_; intro w4 hk4 hof4; rw [HCKk.out] at hk4; have R4 := Lib.hid (R3.out.turn hof4 hk4); have k4 := (hof4.cell (p := ⟨k, 0, none⟩) hk3 (fun h => hgk h.symm)).trans k3; have hk4' : k < w4.heap.size := Nat.lt_of_lt_of_le hk3 hof4.size; clear hk4 hof4 R3 HB3 HRP k3 hk3 y3)
      refine (rwrite_any R4.out HOB.out ((f : Int) + 1 + (kk : Int)) _ (chunkJ b kk) (.inr (.inl ⟨g, _, 64, rfl, HCLk.out, by omega, .head _⟩))).mono ?_
      rw [HWR.out]
      rintro en6 w6 ⟨rfl, h⟩
      have R6 := Lib.hid h.dropB
      clear h R4 HWR k4 hk4'
      by_cases hez : en = 0
      · have HPS3 : Hid (putsJ b f m 0 s = putsJ b f (m - (kk + 1)) (kk + 1) sn) := Lib.hid (by rw [HPS2.out, if_neg (by omega)])
        subst hez
        have h9 : ((kk + 1) * 64 : Nat) = a + 64 := by have := HAE.out; omega
        have H9 := Lib.hid h9
        clear h9
        go_wp2
        go_roundw
        case rel => exact ⟨kk + 1, sn, rn, by omega, by rw [H9.out]; go_num, HPS3, HSO, HAL2, R6⟩
        case measure => simp [intOf]; have := HNM.out; have := HAE.out; omega
      · have t2 : (en != 0) = true := by simpa using hez
        have HRW : Hid (rw_ = (sn, en)) := Lib.hid (by
          have h9 : putsJ b f m 0 s = (sn, en) := by rw [HPS2.out, if_pos hez]
          rw [HW.out, h9]
          simp [thenJ, hez])
        clear hez
        go_wp2
        go_ret
        rw [HRW.out]
        exact ⟨rn, rfl, HAL2.out, bv, R6.out, HBV.out⟩
    · obtain rfl : kk = m := by omega
      have hnm := HNM.out
      have t1 : decide ((a : Int) < (n : Int)) = false := by simp; omega
      have t1n : decide (a < n) = false := by simp; omega
      have HPE : Hid (putsJ b f kk 0 s = (s', 0)) := Lib.hid (by rw [hps.out, Nat.sub_self]; rfl)
      obtain ⟨⟨sf, ef⟩, hfe⟩ : ∃ q, s'.flush = q := ⟨_, rfl⟩
      obtain ⟨⟨rf, ef'⟩, hfr⟩ : ∃ q, r'.flush = q := ⟨_, rfl⟩
      obtain ⟨haw, hal2⟩ := hal.out.flush (by have := hops.out; have := HO.out; have := HMB.out; omega)
      rw [hfe, hfr] at haw hal2
      simp only at haw hal2
      subst haw
      have HAL2 := Lib.hid hal2
      have hfo : sf.ops ≤ s'.ops + 1 := by have := flush_ops s'; rwa [hfe] at this
      have HFO : Hid (sf.ops ≤ s.ops + 5000) := Lib.hid (by have := hops.out; have := HMB.out; omega)
      have HOB : Hid (r'.n < 1000000000) := Lib.hid (by rw [← hal.out.ops]; have := hops.out; have := HO.out; have := HMB.out; omega)
      have HFE := Lib.hid hfe
      have HFR := Lib.hid hfr
      clear hfe hfr hal2 hal hfo hps hops hnm hae hbj
      go_wp2_with fail
      refine (rflush_any hrm.out HOB.out).mono ?_
      rw [HFR.out]
      rintro en4 w4 ⟨rfl, h⟩
      have R4 := Lib.hid h
      clear h hrm k0 hkr
      by_cases hez : ef = 0
      · subst hez
        have hbj : Blk w4 k 81 (rjcells p bv j) := R4.out.blk (.head _)
        have k0 := hbj.cell 0
        have k3 := hbj.cell 3
        have hkr := hbj.lt
        simp only [rjcells, List.getElem?_cons_zero, List.getElem?_cons_succ] at k0 k3
        clear hbj
        obtain ⟨⟨sh, eh⟩, hwe⟩ : ∃ q, sf.write (f : Int) (headB gen b) = q := ⟨_, rfl⟩
        obtain ⟨⟨rh, eh'⟩, hwr⟩ : ∃ q, rf.write (f : Int) (headB gen b) = q := ⟨_, rfl⟩
        obtain ⟨haw, hal2⟩ := HAL2.out.write (by have := HFO.out; have := HO.out; omega) (f : Int) (headB gen b)
        rw [hwe, hwr] at haw hal2
        simp only at haw hal2
        subst haw
        have HAL3 := Lib.hid hal2
        have hso : sh.ops ≤ sf.ops + 1 := by have := write_ops sf (f : Int) (headB gen b); rwa [hwe] at this
        have HOF : Hid (rf.n < 1000000000) := Lib.hid (by rw [← HAL2.out.ops]; have := HFO.out; have := HO.out; omega)
        have HSH : Hid (sh.ops ≤ s.ops + 5001) := Lib.hid (by have := HFO.out; omega)
        have HRW0 : Hid (rw_ = thenJ (sh, eh) Dk.flush) := Lib.hid (by rw [HW.out, HPE.out]; simp [thenJ, HFE.out, hwe])
        have HWR := Lib.hid hwr
        have HRB := Lib.hid (R4.out.argReads (HARG.out.mono (bs' := (k, 81, rjcells p bv j) :: bs) (fun y hy => .tail _ hy) (fun y hy => hy)))
        have eg : (j.gen : Int) + 1 = (gen : Int) := by have := HGE.out; omega
        have eg2 : IntKind.u32.wrap (gen : Int) = (gen : Int) := by rw [IntKind.wrap_u32]; have := HG.out; omega
        have en2 : IntKind.u32.wrap (n : Int) = (n : Int) := by rw [IntKind.wrap_u32]; have := HN4.out; omega
        have kc := Lib.run_convert_bytes_const (P := Try.prog) w4 31 5 #[.int .u8 112, .int .u8 100, .int .u8 103, .int .u8 113] 4 4 Try.underlying31 Try.underlying5
        simp only [List.size_toArray, List.length_cons, List.length_nil, Nat.zero_add, Nat.reduceAdd] at kc
        have hb5 : Below w4.heap.size w4 (w4.alloc (.cells #[.int .u8 112, .int .u8 100, .int .u8 103, .int .u8 113] 5 (4, 5))) := (Below.refl _ w4).alloc (Nat.le_refl _) _
        have k5 := (hb5.cell (p := ⟨k, 3, none⟩) hkr).trans k3
        have HB5 := Lib.hid hb5
        clear hwe hwr hso hal2 hb5
        have hk5 := reads_const w4 [112, 100, 103, 113] 5 (4, 5) #[.int .u8 112, .int .u8 100, .int .u8 103, .int .u8 113] 4 rfl rfl (by decide)
        have HK5 := Lib.hid hk5
        clear hk5
        go_wp2_with fail
        refine (ru32b_any gen HG.out _).mono ?_
        rintro en6 w6 ⟨A6, c6, rfl, hown, hb⟩
        rw [length_beB] at hown ⊢
        have HR6 := Lib.hid (Reads.of_own hown)
        have HK6 := Lib.hid (HK5.out.below (hb.mono (by rw [World.size_alloc]; omega)))
        have HB6 := Lib.hid (HB5.out.trans (hb.mono HB5.out.size))
        clear hown hb HB5 HK5 k5 kc
        go_wp2_with (at_builtin; refine wpList_grow elem_byte _ rfl (.tmp 53) (.tmp 59) rfl _ w4.heap.size 0 4 _ rfl HK6.out (by omega) _ _ (bytesV (beB gen 4)) rfl HR6.out (by simp [length_bytesV, length_beB]) (by rw [length_bytesV, length_beB]; unfold maxLen; omega) (by rw [length_bytesV, length_beB]; omega) ?_; intro A7 c7 w7 hown hb; rw [bytesV_append, length_bytesV, length_beB] at hown; rw [length_bytesV, length_beB]; have HO7 := Lib.hid (own_lower hown HB6.out.size); have HB7 := Lib.hid (HB6.out.trans (hb.mono HB6.out.size)); clear hown hb HB6 HR6 HK6)
        refine (ru32b_any n HN4.out _).mono ?_
        rintro en8 w8 ⟨A8, c8, rfl, hown, hb⟩
        rw [length_beB] at hown ⊢
        have HR8 := Lib.hid (Reads.of_own hown)
        have HO8 := Lib.hid (own_bel3 HO7.out hb)
        have HB8 := Lib.hid (HB7.out.trans (hb.mono HB7.out.size))
        clear hown hb HO7 HB7
        go_wp2_with (at_builtin; refine wpList_extend elem_byte _ rfl (.tmp 61) (.tmp 65) rfl w4.heap.size 8 _ _ rfl HO8.out _ _ (bytesV (beB n 4)) rfl HR8.out (bytesV_one _) (by rw [length_bytesV, length_beB]; unfold maxLen; omega) (by rw [length_bytesV, length_beB]; omega) HB8.out.size ?_; intro A9 c9 w9 hown hg hf; rw [bytesV_append, length_bytesV, length_beB] at hown; rw [length_bytesV, length_beB]; have HB9 := Lib.hid (HB8.out.grown hg HB8.out.size (fun k hk => (HO8.out.lt k hk).1)); have HO9 := Lib.hid hown; clear hown hg hf HO8 HB8 HR8)
        refine (rcrc_any w9 _ _ b (HRB.out.below HB9.out)).mono ?_
        rintro en9 w9' ⟨rfl, rfl⟩
        go_wp2_with fail
        refine (ru32b_any (crcN b) (crcN_lt b) _).mono ?_
        rintro en10 w10 ⟨A10, c10, rfl, hown, hb⟩
        rw [length_beB] at hown ⊢
        have HR10 := Lib.hid (Reads.of_own hown)
        have HO10 := Lib.hid (own_bel3 HO9.out hb)
        have HB10 := Lib.hid (HB9.out.trans (hb.mono HB9.out.size))
        clear hown hb HO9 HB9
        go_wp2_with (at_builtin; refine wpList_extend elem_byte _ rfl (.tmp 66) (.tmp 69) rfl w4.heap.size 12 _ _ rfl HO10.out _ _ (bytesV (beB (crcN b) 4)) rfl HR10.out (bytesV_one _) (by rw [length_bytesV, length_beB]; unfold maxLen; omega) (by rw [length_bytesV, length_beB]; omega) HB10.out.size ?_; intro A11 c11 w11 hown hg hf; rw [bytesV_append, length_bytesV, length_beB] at hown; rw [length_bytesV, length_beB]; have HB11 := Lib.hid (HB10.out.grown hg HB10.out.size (fun k hk => (HO10.out.lt k hk).1)); have HO11 := Lib.hid hown; clear hown hg hf HO10 HB10 HR10)
        have HC : Hid (([112, 100, 103, 113] ++ beB gen 4 ++ beB n 4) ++ beB (crcN b) 4 = headCore gen b) := Lib.hid (by unfold headCore; rw [HN.out])
        have hcl := headCore_len gen b
        have HHB : Hid (headB gen b = (headCore gen b ++ beB (crcN (headCore gen b)) 4) ++ List.replicate 44 0) := Lib.hid rfl
        rw [HC.out] at HO11
        generalize headCore gen b = hc at HO11 HHB hcl
        have HRC := Lib.hid (Reads.of_own HO11.out)
        clear hcl HC
        refine (rcrc_any w11 _ _ hc HRC.out).mono ?_
        rintro en11 w11' ⟨rfl, rfl⟩
        go_wp2_with fail
        refine (ru32b_any (crcN hc) (crcN_lt hc) _).mono ?_
        rintro en12 w12 ⟨A12, c12, rfl, hown, hb⟩
        rw [length_beB] at hown ⊢
        have HR12 := Lib.hid (Reads.of_own hown)
        have HO12 := Lib.hid (own_bel3 HO11.out hb)
        have HB12 := Lib.hid (HB11.out.trans (hb.mono HB11.out.size))
        clear hown hb HO11 HB11
        go_upto_region 16 with (at_builtin; refine wpList_extend elem_byte _ rfl (.tmp 71) (.tmp 74) rfl w4.heap.size 16 _ _ rfl HO12.out _ _ (bytesV (beB (crcN hc) 4)) rfl HR12.out (bytesV_one _) (by rw [length_bytesV, length_beB]; unfold maxLen; omega) (by rw [length_bytesV, length_beB]; omega) HB12.out.size ?_; intro A13 c13 w13 hown hg hf; rw [bytesV_append, length_bytesV, length_beB] at hown; rw [length_bytesV, length_beB]; have HB13 := Lib.hid (HB12.out.grown hg HB12.out.size (fun k hk => (HO12.out.lt k hk).1)); have HO13 := Lib.hid hown; clear hown hg hf HO12 HB12 HR12)
        go_wp2_with (at_builtin; go_loud (refine wpList_zeros elem_byte Try.underlying3 rfl _ rfl (.tmp 76) (.const (.int .i64 44)) rfl w4.heap.size 20 _ _ rfl HO13.out .i64 44 rfl (by unfold maxLen; omega) (by omega) HB13.out.size ?_); go_loud (intro A14 c14 w14 hown hg hf; simp only [Nat.reduceAdd] at hown hg ⊢; have HB14 := Lib.hid (HB13.out.grown hg HB13.out.size (fun k hk => (HO13.out.lt k hk).1)); have k14 := (HB14.out.cell (p := ⟨k, 0, none⟩) hkr).trans k0; have hk14 : k < w14.heap.size := Nat.lt_of_lt_of_le hkr HB14.out.size; have HO14 : Hid (w14.ownsRow w4.heap.size 5 1 (.slice A14 64 c14) 64 (bytesV (headB gen b))) := Lib.hid (by rw [HHB.out, ← bytesV_append]; exact hown); clear hown hg hf HO13 HB13 k0 hkr))
        have R14 := Lib.hid (R4.out.read HB14.out (own_readsIn (T := fun i => w4.heap.size ≤ i) (by omega) HO14.out (fun i hi => (HO14.out.lt i hi).1)))
        refine (rwrite_any R14.out HOF.out (f : Int) _ (headB gen b) (.inr (.inr (.head _)))).mono ?_
        rw [HWR.out]
        rintro en15 w15 ⟨rfl, h⟩
        have R15 := Lib.hid (h.sub (rs0 := rs0) (fun x hx => .tail _ hx))
        clear h R14 R4 HO14 HWR k14 hk14
        by_cases hez : eh = 0
        · subst hez
          obtain ⟨⟨sz, ez⟩, hfe⟩ : ∃ q, sh.flush = q := ⟨_, rfl⟩
          obtain ⟨⟨rz, ez'⟩, hfr⟩ : ∃ q, rh.flush = q := ⟨_, rfl⟩
          obtain ⟨haw, hal2⟩ := HAL3.out.flush (by have := HSH.out; have := HO.out; omega)
          rw [hfe, hfr] at haw hal2
          simp only at haw hal2
          subst haw
          have HAL4 := Lib.hid hal2
          have HRW : Hid (rw_ = (sz, ez)) := Lib.hid (by rw [HRW0.out]; simp [thenJ, hfe])
          have HOH : Hid (rh.n < 1000000000) := Lib.hid (by rw [← HAL3.out.ops]; have := HSH.out; have := HO.out; omega)
          have HFR2 := Lib.hid hfr
          have hbj : Blk w15 k 81 (rjcells p bv j) := R15.out.blk (.head _)
          have k0' := hbj.cell 0
          have hqr := hbj.lt
          simp only [rjcells, List.getElem?_cons_zero] at k0'
          clear hfe hfr hbj hal2
          go_wp2_with fail
          refine (rflush_any R15.out HOH.out).mono ?_
          rw [HFR2.out]
          rintro en16 w16 ⟨rfl, h⟩
          have R16 := Lib.hid h
          clear h
          go_wp2
          go_ret
          rw [HRW.out]
          exact ⟨rz, rfl, HAL4.out, bv, R16.out, HBV.out⟩
        · have t2 : (eh != 0) = true := by simpa using hez
          have HRW : Hid (rw_ = (sh, eh)) := Lib.hid (by rw [HRW0.out]; simp [thenJ, hez])
          clear hez
          go_wp2
          go_ret
          rw [HRW.out]
          exact ⟨rh, rfl, HAL3.out, bv, R15.out, HBV.out⟩
      · have t2 : (ef != 0) = true := by simpa using hez
        have HRW : Hid (rw_ = (sf, ef)) := Lib.hid (by rw [HW.out, HPE.out]; simp [thenJ, HFE.out, hez])
        clear hez
        go_wp2
        go_ret
        rw [HRW.out]
        exact ⟨rf, rfl, HAL2.out, bv, R4.out, HBV.out⟩
end
end Go.Proofs.Ytjddplddpdcmdaa
