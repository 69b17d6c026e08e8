/- Contracts of codec.numbers, codec.Encode. -/
import Derived.Test.YtcjpibdgnjncmaaCodEncP
import Derived.Lib.SlBytesConst
namespace Go.Proofs.Ytcjpibdgnjncmaa
open Go.RowKit
set_option linter.unusedVariables false
set_option linter.unusedSimpArgs false

theorem reads_const (w : World) (bs : List UInt8) (e : TypeId) (k : Nat × Nat) (C : Array Value) (n : Nat) (hn : n = bs.length) (hC : C.toList = bytesV bs) (hm : bs.length ≤ maxLen) :
    Reads (w.alloc (.cells C e k)) (w.heap.size + 1) (.slice (some ⟨w.heap.size, 0, none⟩) n n) (bytesV bs) := by
  subst hn
  refine ⟨some ⟨w.heap.size, 0, none⟩, _, _, rfl, length_bytesV bs, Nat.le_refl _, hm, fun _ => ⟨w.heap.size, 0, rfl, by omega, fun j u hu => ?_⟩⟩
  rw [← hC] at hu
  rw [Nat.zero_add]
  have : (w.alloc (.cells C e k)).heap[w.heap.size]? = some (.cells C e k) := by
    show (w.heap.push (.cells C e k))[w.heap.size]? = _
    simp
  simp only [World.cell?, this]
  simpa using hu
theorem wrap_wrap64 (n : Int) : IntKind.u64.wrap (wrap64 n) = IntKind.u64.wrap n := by
  rw [IntKind.wrap_u64, IntKind.wrap_u64]
  unfold wrap64
  omega
/-- what a tensor's numbers are written behind -/
def Nums (w0 w : World) (p : Nat) (v : Value) (bs : List UInt8) (ks : List (Nat × TypeId × List Value)) (en : Ending) (w' : World) : Prop :=
  en = .returned (.tuple #[]) ∧ ∃ v', EK w0 w' p v' bs ks
set_option maxHeartbeats 1600000 in
set_option maxRecDepth 100000 in
theorem numbers_any (w0 w : World) (B p : Nat) (v : Value) (bs : List UInt8) (ks : List (Nat × TypeId × List Value)) (dv xv : Value) (d : List Int) (e : Int) (x : List Int) (hE : EK w0 w p v bs ks) (h : IsT w B dv xv d e x) (hB : B ≤ w0.heap.size) (hl : bs.length + x.length + 16 ≤ 140737488355328) :
    Calls Try.prog 43 #[.pointer (some ⟨p, 0, none⟩), .agg #[dv, .int .i64 e, xv]] w (Nums w0 w p v (bs ++ encT e x) ks) := by
  obtain ⟨A1, c1, rfl, _, _⟩ := h.d.form
  obtain ⟨A2, c2, rfl, _, hm2⟩ := h.x.form
  rw [length_ints, length_ints] at *
  have HB := Lib.hid (hE.box [.slice A1 d.length c1, .int .i64 e, .slice A2 x.length c2] 40)
  have K0 := Lib.hid HB.out.get
  dsimp only at K0
  have s0 := hE.bel.size
  have HX : Hid (∀ W, Below w.heap.size w W → Reads W B (.slice A2 x.length c2) (ints .i8 x)) := Lib.hid (fun W hW => h.x.below (hW.mono (by omega)))
  have HB0 := Lib.hid hE.bel
  have l0 : w.heap.size < (w.alloc (.cells #[.slice A1 d.length c1, .int .i64 e, .slice A2 x.length c2] 40)).heap.size := by simp
  have m0 := K0.out.cell 0
  have m1 := K0.out.cell 1
  have m2 := K0.out.cell 2
  simp only [List.getElem?_cons_zero, List.getElem?_cons_succ] at m0 m1 m2
  have hxl : x.length ≤ 9223372036854775807 := by omega
  have HBX := Lib.hid ((Below.refl w.heap.size w).alloc (Nat.le_refl _) (.cells #[.slice A1 d.length c1, .int .i64 e, .slice A2 x.length c2] 40))
  clear h
  go_enter Try.func43, Try.ntmps43
  go_wp2_with fail
  refine (u8_any _ w0.heap.size p v bs HB.out.wr HB.out.bel.size e _ (wrapNat e) (by omega)).mono ?_
  rintro en w2 ⟨rfl, v2, hw2, hf2, ho2⟩
  have HS2 := Lib.hid (HB.out.put hw2 hf2 ho2)
  have k2 := HS2.out.get
  dsimp only at k2
  have l2 := k2.lt
  have m2 := k2.cell 2
  simp only [List.getElem?_cons_zero, List.getElem?_cons_succ] at m2
  have HX2 : Hid (Reads w2 B (.slice A2 x.length c2) (ints .i8 x)) := Lib.hid ((HX.out _ HBX.out).below (ho2.below (by simp; omega) (fun i hi => by
    rcases hi with rfl | hi
    · have := hE.lp; omega
    · have := (hE.wr.own.lt i hi).1; omega)))
  have HS3 := Lib.hid (HS2.out.less (ks' := ks) (fun b hb => List.mem_cons_of_mem _ hb))
  clear hw2 hf2 ho2 m0 m1 HS2 HB k2 HX HBX K0 HB0 l0
  have HE := Lib.hid hE
  clear hE
  go_wp2_with fail
  clear m2 l2
  go_loopw [13] (fun i wr => ∃ (m : Nat) (u : Value), m ≤ x.length ∧ i = .int .i64 m ∧ Hid (EK w0 wr p u (bs ++ enc1 e ++ (x.take m).flatMap enc1) ks ∧ Off (fun i => w0.heap.size ≤ i) w2 wr)) (fun i _ => x.length - (intOf i).toNat)
  case atStart => exact ⟨0, v2, by omega, rfl, Lib.hid ⟨by rw [List.take_zero, List.flatMap_nil, List.append_nil]; exact HS3.out, Off.refl _ _⟩⟩
  case round =>
    obtain ⟨m, u, hm, rfl, HR⟩ := hrel
    by_cases hlt : m < x.length
    · obtain ⟨_, _, _, e7, l7, f7, m7, at7⟩ := HX2.out.below (HR.out.2.below (B := B) (by have := HS3.out.bel.size; omega) (fun i hi => by omega))
      injection e7 with e7 e8 e9
      subst e7 e8 e9
      obtain ⟨g7, o7, hA7, hg7, hx7⟩ := at7.out (by omega)
      subst hA7
      have k7 := hx7 m (.int .i8 x[m]) (by simp [ints, hlt])
      have hsz7 := HR.out.1.bel.size
      have a7 : g7 < wr.heap.size := by omega
      have HN7 := Lib.hid (flat_take enc1 (List.getElem?_eq_getElem hlt))
      have i7 : (0 : Int) ≤ (m : Int) := by omega
      have j7 : (m : Int) < (x.length : Int) := by omega
      have ln7 : (bs ++ enc1 e ++ (x.take m).flatMap enc1).length + 8 ≤ 140737488355328 := by
        rw [List.length_append, List.length_append, length_flatK enc1 1 length_enc1, length_enc1, List.length_take]
        omega
      generalize x[m] = y at k7 HN7
      clear at7 hx7 l7 f7 m7
      go_wp2_with fail
      refine (u8_any _ w0.heap.size p u _ HR.out.1.wr HR.out.1.bel.size (wrap64 y) _ ((wrap_wrap64 y).trans (wrapNat y)) ln7).mono ?_
      rintro en w8 ⟨rfl, v8, hw8, hf8, ho8⟩
      have HS8 := Lib.hid (HR.out.1.put hw8 hf8 ho8)
      have HO8 := Lib.hid (HR.out.2.trans ho8 (fun i hi => .inl (by
        rcases hi with rfl | hi
        · exact HR.out.1.lp
        · exact (HR.out.1.wr.own.lt i hi).1)))
      clear hw8 hf8 ho8 HR ln7
      go_wp2
      go_roundw
      case rel => exact ⟨m + 1, v8, by omega, by go_num, Lib.hid ⟨by rw [HN7.out, ← List.append_assoc]; exact HS8.out, HO8.out⟩⟩
      case measure => simp [intOf]; omega
    · obtain rfl : m = x.length := by omega
      rw [List.take_length, List.append_assoc] at HR
      clear hlt
      go_wp2_with fail
      go_end0
      exact ⟨rfl, u, HR.out.1⟩
/-- what Encode tells -/
def EncOf (w : World) (s : StV) (en : Ending) (w' : World) : Prop :=
  Below w.heap.size w w' ∧ ((mayS s = false ∧ en = .returned (.tuple #[.slice none 0 0, .int .i64 1])) ∨
    (mayS s = true ∧ ∃ A c, en = .returned (.tuple #[.slice A (encS s).length c, .int .i64 0]) ∧ w'.ownsRow w.heap.size 5 1 (.slice A (encS s).length c) (encS s).length (bytesV (encS s))))
set_option maxRecDepth 100000 in
set_option maxHeartbeats 3200000 in
theorem cenc_any (v : Value) (s : StV) (w : World) (B : Nat) (hB : B ≤ w.heap.size) (h : StOf w B v s) : Calls Try.prog 14 #[v] w (EncOf w s) := by
  obtain ⟨seed, step, lv, ps⟩ := s
  have h0 := h
  obtain ⟨rfl, hsd, hst, hx⟩ := h
  dsimp only at hx hsd hst h0 ⊢
  obtain ⟨A, k, rfl⟩ := hx.form
  have hlen := hx.len
  have HX := Lib.hid hx
  have hb0 := (Below.refl w.heap.size w).alloc (Nat.le_refl _) (.cells #[.int .u64 seed, .int .i64 step, .slice A ps.length k] 25)
  have hk0 := Blk.fresh w 25 [.int .u64 seed, .int .i64 step, .slice A ps.length k]
  obtain ⟨r, hr⟩ : ∃ r, mayS ⟨seed, step, .slice A ps.length k, ps⟩ = r := ⟨_, rfl⟩
  have HM := Lib.hid (cmay_any _ _ (w.alloc (.cells #[.int .u64 seed, .int .i64 step, .slice A ps.length k] 25)) B (by have := hb0.size; omega) (h0.below (hb0.mono hB)) r hr)
  have HB := Lib.hid hb0
  have HK := Lib.hid hk0
  have m0 := HK.out.cell 0
  have m1 := HK.out.cell 1
  have m2 := HK.out.cell 2
  simp only [List.getElem?_cons_zero, List.getElem?_cons_succ] at m0 m1 m2
  have hs := hb0.size
  have hl := hk0.lt
  have HR := Lib.hid hr
  obtain ⟨sd0, sd1⟩ := hsd
  clear hb0 hk0 hx h0 hr hst
  go_enter Try.func14, Try.ntmps14
  go_wp2_with fail
  generalize (w.alloc (.cells #[.int .u64 seed, .int .i64 step, .slice A ps.length k] 25)) = w1 at HB HK HM m0 m1 m2 hs hl ⊢
  refine HM.out.mono ?_
  rintro en w2 ⟨rfl, hb⟩
  have HB2 := Lib.hid (HB.out.trans (hb.mono (by omega)))
  have HK2 := Lib.hid (HK.out.below hb hl)
  clear hb m0 m1 m2
  cases r with
  | false =>
    go_wp2
    refine bodyPost_ret (v := .tuple #[.slice none 0 0, .int .i64 1]) (by simp [results, Try.results14, go_sem]) rfl ?_
    exact ⟨HB2.out, .inl ⟨HR.out, rfl⟩⟩
  | true =>
    have hsz := HB2.out.size
    have HMS := Lib.hid (mayS_of HR.out)
    have HS : Hid (EK w (w2.alloc (.cells #[.slice none 0 0] 69)) w2.heap.size (.slice none 0 0) [] [(w.heap.size, 25, [.int .u64 seed, .int .i64 step, .slice A ps.length k])]) := Lib.hid
      ⟨HB2.out.alloc hsz _, ⟨Blk.fresh w2 69 [.slice none 0 0], World.ownsRow_nil _ _ _ _, by simp [Value.ownBlock]⟩, fun b hb => by
        rw [List.mem_singleton.1 hb]
        exact ⟨HK2.out.alloc _, by have := HK2.out.lt; show w.heap.size ≠ _; omega, by simp [Value.ownBlock]⟩, hsz⟩
    have kc := Lib.run_convert_bytes_const (P := Try.prog) (w2.alloc (.cells #[.slice none 0 0] 69)) 27 5 #[.int .u8 112, .int .u8 100, .int .u8 115, .int .u8 116] 4 4 Try.underlying27 Try.underlying5
    have HRC := Lib.hid (reads_const (w2.alloc (.cells #[.slice none 0 0] 69)) [112, 100, 115, 116] 5 (4, 5) #[.int .u8 112, .int .u8 100, .int .u8 115, .int .u8 116] 4 rfl rfl (by decide))
    have hz2 : (w2.alloc (.cells #[.slice none 0 0] 69)).heap.size = w2.heap.size + 1 := by simp
    rw [hz2] at kc HRC
    simp only [List.size_toArray, List.length_cons, List.length_nil, Nat.zero_add, Nat.reduceAdd] at kc
    have HS1 := Lib.hid (HS.out.alloc (.cells #[.int .u8 112, .int .u8 100, .int .u8 115, .int .u8 116] 5 (4, 5)))
    clear hz2
    go_wp2_with fail
    refine (raw_any _ w.heap.size w2.heap.size (.slice none 0 0) [] HS1.out.wr HS1.out.bel.size (w2.heap.size + 2) (.slice (some ⟨w2.heap.size + 1, 0, none⟩) 4 4) [112, 100, 115, 116] HRC.out (by decide)).mono ?_
    rintro en w3 ⟨rfl, v3, hw3, hf3, ho3⟩
    have HS3 := Lib.hid (HS1.out.put hw3 hf3 ho3)
    have hk3 := Lib.hid HS3.out.get
    dsimp only at hk3
    have m0 := hk3.out.cell 0
    have m1 := hk3.out.cell 1
    have m2 := hk3.out.cell 2
    simp only [List.getElem?_cons_zero, List.getElem?_cons_succ] at m0 m1 m2
    have l3 := hk3.out.lt
    clear hw3 hf3 ho3 HS1 HS HRC kc hk3
    go_wp2_with fail
    refine (u64_any _ w.heap.size w2.heap.size v3 _ HS3.out.wr HS3.out.bel.size seed seed.toNat (by omega) (by omega) (by decide)).mono ?_
    rintro en w4 ⟨rfl, v4, hw4, hf4, ho4⟩
    have HS4 := Lib.hid (HS3.out.put hw4 hf4 ho4)
    have hk4 := Lib.hid HS4.out.get
    dsimp only at hk4
    clear m0 m1 m2
    have m0 := hk4.out.cell 0
    have m1 := hk4.out.cell 1
    have m2 := hk4.out.cell 2
    simp only [List.getElem?_cons_zero, List.getElem?_cons_succ] at m0 m1 m2
    have l4 := hk4.out.lt
    clear hw4 hf4 ho4 HS3 l3 hk4
    go_wp2_with fail
    refine (u32_any _ w.heap.size w2.heap.size v4 _ HS4.out.wr HS4.out.bel.size (IntKind.u32.wrap step) _ (u32_nat step).1 (u32_nat step).2 (by simp only [List.length_append, length_beB, List.length_cons, List.length_nil]; omega)).mono ?_
    rintro en w5 ⟨rfl, v5, hw5, hf5, ho5⟩
    have HS5 := Lib.hid (HS4.out.put hw5 hf5 ho5)
    have hk5 := Lib.hid HS5.out.get
    dsimp only at hk5
    clear m0 m1 m2
    have m0 := hk5.out.cell 0
    have m1 := hk5.out.cell 1
    have m2 := hk5.out.cell 2
    simp only [List.getElem?_cons_zero, List.getElem?_cons_succ] at m0 m1 m2
    have l5 := hk5.out.lt
    clear hw5 hf5 ho5 HS4 l4 hk5
    go_wp2_with fail
    refine (u8_any _ w.heap.size w2.heap.size v5 _ HS5.out.wr HS5.out.bel.size ps.length _ (wrapNat _) (by simp only [List.length_append, length_beB, List.length_cons, List.length_nil]; omega)).mono ?_
    rintro en w6 ⟨rfl, v6, hw6, hf6, ho6⟩
    have HS6 := Lib.hid (HS5.out.put hw6 hf6 ho6)
    have hk6 := Lib.hid HS6.out.get
    dsimp only at hk6
    clear m0 m1 m2
    have m0 := hk6.out.cell 0
    have m1 := hk6.out.cell 1
    have m2 := hk6.out.cell 2
    simp only [List.getElem?_cons_zero, List.getElem?_cons_succ] at m0 m1 m2
    have l6 := hk6.out.lt
    clear hw6 hf6 ho6 HS5 l5 hk6
    go_wp2_with fail
    have HH : Hid (([] ++ [112, 100, 115, 116] ++ beB seed.toNat 8 ++ beB (IntKind.u32.wrap step).toNat 4 ++ beB (IntKind.u64.wrap (ps.length : Int)).toNat 1 : List UInt8) = encH seed step ps.length) := Lib.hid (by unfold encH enc8 enc4 enc1; simp)
    have HS7 := Lib.hid (HS6.out.less (ks' := []) (fun b hb => absurd hb (by simp)))
    rw [HH.out] at HS7
    clear m0 m1 m2 l6 HS6 HH
    generalize hbh : encH seed step ps.length = bh at HS7
    have HBH := Lib.hid hbh
    have hbl : bh.length = 17 := by rw [← hbh]; exact length_encH _ _ _
    have HBL := Lib.hid hbl
    clear hbh hbl
    go_loopw [37] (fun i wr => ∃ (j : Nat) (u : Value), j ≤ ps.length ∧ i = .int .i64 j ∧ Hid (EK w wr w2.heap.size u (bh ++ ((ps.map (·.c)).take j).flatMap encP) [])) (fun i _ => ps.length - (intOf i).toNat)
    case atStart => exact ⟨0, v6, by omega, rfl, by simpa using HS7⟩
    case round =>
      obtain ⟨j, u, hj, rfl, HE⟩ := hrel
      clear HS7
      by_cases hlt : j < ps.length
      · obtain ⟨g, o, cq, p, e1, hpk, hok, hg, q0, q1, q2, q3, q4, q5, q6⟩ := (HX.out.below (HE.out.bel.mono hB)).at_ hlt
        injection e1 with e1 _ e3
        subst e1 e3
        have hmp := HMS.out.2.2 p (List.mem_of_getElem? hpk)
        have HSM := Lib.hid (mayC_small hmp)
        have HNX := Lib.hid (flat_take encP (l := ps.map (·.c)) (k := j) (x := p.c) (by rw [List.getElem?_map, hpk]; rfl))
        have ln : (bh ++ ((ps.map (·.c)).take j).flatMap encP).length + 1000000 ≤ 140737488355328 := by
          have h1 := length_encPs (cs := (ps.map (·.c)).take j) (fun c hc => by
            obtain ⟨q, hq, rfl⟩ := List.mem_map.1 (List.mem_of_mem_take hc)
            exact HMS.out.2.2 q hq)
          have h2 := HMS.out.2.1
          rw [List.length_take, List.length_map] at h1
          have h3 := HBL.out
          have : min j ps.length * 50000 ≤ 12 * 50000 := Nat.mul_le_mul_right _ (by omega)
          rw [List.length_append]
          omega
        generalize hb : bh ++ ((ps.map (·.c)).take j).flatMap encP = bs at HE ln
        have HBS := Lib.hid hb
        obtain ⟨pwd, pwx, pmv, pbd, pbx, pc⟩ := p
        obtain ⟨A1, c1, A2, c2, f1, f2⟩ := hok.t.form
        obtain ⟨A3, c3, f3, _, _⟩ := hok.m.form
        obtain ⟨A4, c4, A5, c5, f4, f5⟩ := hok.b.form
        rw [length_ints] at f3
        dsimp only at f1 f2 f3 f4 f5 q0 q1 q2 q3 q4 q5 q6 HSM HNX
        subst f1 f2 f3 f4 f5
        have hsz2 := HE.out.bel.size
        have gw : g < wr.heap.size := by omega
        have HE1 := Lib.hid (HE.out.box [.slice A1 pc.wd.length c1, .int .i64 pc.we, .slice A2 pc.wx.length c2, .slice A3 pc.m.length c3, .slice A4 pc.bd.length c4, .int .i64 pc.be, .slice A5 pc.bx.length c5] 43)
        have hok0 := HX.out.ok.out _ (List.mem_of_getElem? hpk)
        have HOK : Hid (∀ W, Below w.heap.size w W → ParV.Ok W B ⟨.slice A1 pc.wd.length c1, .slice A2 pc.wx.length c2, .slice A3 pc.m.length c3, .slice A4 pc.bd.length c4, .slice A5 pc.bx.length c5, pc⟩) := Lib.hid (fun W hW => hok0.below (hW.mono hB))
        have i1 : (0 : Int) ≤ (j : Int) := by omega
        have i2 : (j : Int) < (ps.length : Int) := by omega
        have kx := Lib.hid HE1.out.get
        dsimp only at kx
        have m0 := kx.out.cell 0
        have m1 := kx.out.cell 1
        have m2 := kx.out.cell 2
        have m3 := kx.out.cell 3
        have m4 := kx.out.cell 4
        have m5 := kx.out.cell 5
        have m6 := kx.out.cell 6
        simp only [List.getElem?_cons_zero, List.getElem?_cons_succ] at m0 m1 m2 m3 m4 m5 m6
        have lx := kx.out.lt
        clear hpk hok hmp hb hok0 HE kx
        go_wp2_with fail
        clear q0 q1 q2 q3 q4 q5 q6
        generalize (wr.alloc (.cells #[.slice A1 pc.wd.length c1, .int .i64 pc.we, .slice A2 pc.wx.length c2, .slice A3 pc.m.length c3, .slice A4 pc.bd.length c4, .int .i64 pc.be, .slice A5 pc.bx.length c5] 43)) = wa at HE1 m0 m1 m2 m3 m4 m5 m6 lx ⊢
        generalize wr.heap.size = q at HE1 m0 m1 m2 m3 m4 m5 m6 lx hsz2 gw ⊢
        refine (u8_any _ w.heap.size w2.heap.size u bs HE1.out.wr HE1.out.bel.size pc.wd.length _ (wrapNat _) (by omega)).mono ?_
        rintro en w7 ⟨rfl, v7, hw7, hf7, ho7⟩
        have HE2 := Lib.hid (HE1.out.put hw7 hf7 ho7)
        have kx := Lib.hid HE2.out.get
        dsimp only at kx
        have lx := kx.out.lt
        clear m0 m1 m2 m3 m4 m5 m6 hw7 hf7 ho7 HE1
        have m0 := kx.out.cell 0
        have m1 := kx.out.cell 1
        have m2 := kx.out.cell 2
        have m3 := kx.out.cell 3
        have m4 := kx.out.cell 4
        have m5 := kx.out.cell 5
        have m6 := kx.out.cell 6
        simp only [List.getElem?_cons_zero, List.getElem?_cons_succ] at m0 m1 m2 m3 m4 m5 m6
        obtain ⟨rz, hrz⟩ : ∃ rz, zeroP pc = rz := ⟨_, rfl⟩
        have HZ := Lib.hid (czero_any _ w7 B (by have := HE2.out.bel.size; omega) (HOK.out _ HE2.out.bel) rz hrz)
        have HRZ := Lib.hid hrz
        clear hrz
        dsimp only at HZ
        go_wp2_with fail
        refine HZ.out.mono ?_
        rintro en w8 ⟨rfl, hb8⟩
        have HE3 := Lib.hid (HE2.out.below hb8)
        have kx := Lib.hid HE3.out.get
        dsimp only at kx
        have lx := kx.out.lt
        clear m0 m1 m2 m3 m4 m5 m6 hb8 HE2 HZ
        have m0 := kx.out.cell 0
        have m1 := kx.out.cell 1
        have m2 := kx.out.cell 2
        have m3 := kx.out.cell 3
        have m4 := kx.out.cell 4
        have m5 := kx.out.cell 5
        have m6 := kx.out.cell 6
        simp only [List.getElem?_cons_zero, List.getElem?_cons_succ] at m0 m1 m2 m3 m4 m5 m6
        dsimp only
        cases rz with
        | true =>
          have HP : Hid (encP pc = enc1 pc.wd.length) := Lib.hid (by unfold encP; rw [HRZ.out, if_pos rfl, List.append_nil])
          go_wp2_with fail
          go_roundw
          case rel => exact ⟨j + 1, v7, by omega, by go_num, by
            rw [HNX.out, ← List.append_assoc, HBS.out, HP.out]
            exact Lib.hid (HE3.out.less (fun b hb => absurd hb (by simp)))⟩
          case measure => simp [intOf]; omega
        | false =>
          have HP : Hid (encP pc = enc1 pc.wd.length ++ encR pc) := Lib.hid (by unfold encP; rw [HRZ.out, if_neg (by decide)])
          have hbd := HSM.out.2.2.2.2.2 HRZ.out
          go_wp2_with fail
          clear m0 m1 m2 m3 m4 m5 m6 lx kx
          generalize hb1 : bs ++ beB (IntKind.u64.wrap (pc.wd.length : Int)).toNat 1 = b1 at HE3
          have HB1 : Hid (bs ++ enc1 pc.wd.length = b1) := Lib.hid hb1
          have ln1 : b1.length = bs.length + 1 := by rw [← hb1, List.length_append, length_beB]
          clear hb1
          have HBD := Lib.hid hbd
          have HLN1 := Lib.hid ln1
          clear hbd ln1
          have hw4 := HSM.out.1
          go_loopw [53] (fun i wr => ∃ (m : Nat) (u : Value), m ≤ pc.wd.length ∧ i = .int .i64 m ∧ Hid (EK w wr w2.heap.size u (b1 ++ (pc.wd.take m).flatMap enc2) [(q, 43, [.slice A1 pc.wd.length c1, .int .i64 pc.we, .slice A2 pc.wx.length c2, .slice A3 pc.m.length c3, .slice A4 pc.bd.length c4, .int .i64 pc.be, .slice A5 pc.bx.length c5])])) (fun i _ => pc.wd.length - (intOf i).toNat)
          case atStart => exact ⟨0, v7, by omega, rfl, by simpa using HE3⟩
          case round =>
            obtain ⟨m, u9, hm, rfl, HE9⟩ := hrel
            clear HE3
            by_cases hlt9 : m < pc.wd.length
            · obtain ⟨_, _, _, e7, l7, f7, m7, at7⟩ := (HOK.out _ HE9.out.bel).t.d
              dsimp only at e7 l7
              injection e7 with e7 e8 e9
              subst e7 e8 e9
              obtain ⟨g7, o7, hA7, hg7, hx7⟩ := at7.out (by omega)
              subst hA7
              have k7 := hx7 m (.int .i64 pc.wd[m]) (by simp [ints, hlt9])
              have hsz7 := HE9.out.bel.size
              have a7 : g7 < wr.heap.size := by omega
              have HN7 := Lib.hid (flat_take enc2 (List.getElem?_eq_getElem hlt9))
              have i7 : (0 : Int) ≤ (m : Int) := by omega
              have j7 : (m : Int) < (pc.wd.length : Int) := by omega
              have ln7 : (b1 ++ (pc.wd.take m).flatMap enc2).length + 8 ≤ 140737488355328 := by
                have := HLN1.out
                have := HSM.out.1
                rw [List.length_append, length_flatK enc2 2 length_enc2, List.length_take]
                omega
              generalize pc.wd[m] = y at k7 HN7
              clear at7 hx7 l7 f7 m7
              go_wp2_with fail
              refine (u16_any _ w.heap.size w2.heap.size u9 _ HE9.out.wr HE9.out.bel.size y _ (wrapNat y) ln7).mono ?_
              rintro en wb ⟨rfl, vb, hwb, hfb, hob⟩
              have HSb := Lib.hid (HE9.out.put hwb hfb hob)
              clear hwb hfb hob HE9 ln7
              go_wp2
              go_roundw
              case rel => exact ⟨m + 1, vb, by omega, by go_num, by rw [HN7.out, ← List.append_assoc]; exact HSb⟩
              case measure => simp [intOf]; omega
            · obtain rfl : m = pc.wd.length := by omega
              rw [List.take_length] at HE9
              have kx := Lib.hid HE9.out.get
              dsimp only at kx
              have lx := kx.out.lt
              have m0 := kx.out.cell 0
              have m1 := kx.out.cell 1
              have m2 := kx.out.cell 2
              have m3 := kx.out.cell 3
              have m4 := kx.out.cell 4
              have m5 := kx.out.cell 5
              have m6 := kx.out.cell 6
              simp only [List.getElem?_cons_zero, List.getElem?_cons_succ] at m0 m1 m2 m3 m4 m5 m6
              generalize hb2 : b1 ++ pc.wd.flatMap enc2 = b2 at HE9
              have HB2' := Lib.hid hb2
              have ln2 : b2.length ≤ bs.length + 9 := by
                have := HLN1.out
                have := HSM.out.1
                rw [← hb2, List.length_append, length_flatK enc2 2 length_enc2]
                omega
              have hsm2 := HSM.out.2.1
              have HNU := Lib.hid (numbers_any w wr B w2.heap.size u9 b2 _ _ _ _ _ _ HE9.out (HOK.out _ HE9.out.bel).t hB (by dsimp only; omega))
              dsimp only at HNU
              clear hlt9 hb2
              go_wp2_with fail
              refine HNU.out.mono ?_
              rintro en wc ⟨rfl, vc, hEc⟩
              have HEc := Lib.hid hEc
              have kx := Lib.hid HEc.out.get
              dsimp only at kx
              have lx := kx.out.lt
              clear m0 m1 m2 m3 m4 m5 m6 hEc HE9 HNU
              have m0 := kx.out.cell 0
              have m1 := kx.out.cell 1
              have m2 := kx.out.cell 2
              have m3 := kx.out.cell 3
              have m4 := kx.out.cell 4
              have m5 := kx.out.cell 5
              have m6 := kx.out.cell 6
              simp only [List.getElem?_cons_zero, List.getElem?_cons_succ] at m0 m1 m2 m3 m4 m5 m6
              go_wp2_with fail
              clear m0 m1 m2 m3 m4 m5 m6 lx kx
              generalize hb3 : b2 ++ encT pc.we pc.wx = b3 at HEc
              have HB3 := Lib.hid hb3
              have ln3 : b3.length ≤ bs.length + 9000 := by
                rw [← hb3, List.length_append, length_encT]
                omega
              clear hb3
              have hm8 := HSM.out.2.2.1
              go_loopw [68] (fun i wr => ∃ (m : Nat) (u : Value), m ≤ pc.m.length ∧ i = .int .i64 m ∧ Hid (EK w wr w2.heap.size u (b3 ++ (pc.m.take m).flatMap enc4) [(q, 43, [.slice A1 pc.wd.length c1, .int .i64 pc.we, .slice A2 pc.wx.length c2, .slice A3 pc.m.length c3, .slice A4 pc.bd.length c4, .int .i64 pc.be, .slice A5 pc.bx.length c5])])) (fun i _ => pc.m.length - (intOf i).toNat)
              case atStart => exact ⟨0, vc, by omega, rfl, by simpa using HEc⟩
              case round =>
                obtain ⟨m, u9, hm, rfl, HE9⟩ := hrel
                clear HEc
                by_cases hlt9 : m < pc.m.length
                · obtain ⟨_, _, _, e7, l7, f7, m7, at7⟩ := (HOK.out _ HE9.out.bel).m
                  dsimp only at e7 l7
                  injection e7 with e7 e8 e9
                  subst e7 e8 e9
                  obtain ⟨g7, o7, hA7, hg7, hx7⟩ := at7.out (by omega)
                  subst hA7
                  have k7 := hx7 m (.int .i32 pc.m[m]) (by simp [ints, hlt9])
                  have hsz7 := HE9.out.bel.size
                  have a7 : g7 < wr.heap.size := by omega
                  have HN7 := Lib.hid (flat_take enc4 (List.getElem?_eq_getElem hlt9))
                  have i7 : (0 : Int) ≤ (m : Int) := by omega
                  have j7 : (m : Int) < (pc.m.length : Int) := by omega
                  have ln7 : (b3 ++ (pc.m.take m).flatMap enc4).length + 8 ≤ 140737488355328 := by
                    have := HSM.out.2.2.1
                    rw [List.length_append, length_flatK enc4 4 length_enc4, List.length_take]
                    omega
                  generalize pc.m[m] = y at k7 HN7
                  clear at7 hx7 l7 f7 m7
                  go_wp2_with fail
                  refine (u32_any _ w.heap.size w2.heap.size u9 _ HE9.out.wr HE9.out.bel.size (IntKind.u32.wrap y) _ (u32_nat y).1 (u32_nat y).2 ln7).mono ?_
                  rintro en wb ⟨rfl, vb, hwb, hfb, hob⟩
                  have HSb := Lib.hid (HE9.out.put hwb hfb hob)
                  clear hwb hfb hob HE9 ln7
                  go_wp2
                  go_roundw
                  case rel => exact ⟨m + 1, vb, by omega, by go_num, by rw [HN7.out, ← List.append_assoc]; exact HSb⟩
                  case measure => simp [intOf]; omega
                · obtain rfl : m = pc.m.length := by omega
                  rw [List.take_length] at HE9
                  have kx := Lib.hid HE9.out.get
                  dsimp only at kx
                  have lx := kx.out.lt
                  have m0 := kx.out.cell 0
                  have m1 := kx.out.cell 1
                  have m2 := kx.out.cell 2
                  have m3 := kx.out.cell 3
                  have m4 := kx.out.cell 4
                  have m5 := kx.out.cell 5
                  have m6 := kx.out.cell 6
                  simp only [List.getElem?_cons_zero, List.getElem?_cons_succ] at m0 m1 m2 m3 m4 m5 m6
                  generalize hb4 : b3 ++ pc.m.flatMap enc4 = b4 at HE9
                  have HB4 := Lib.hid hb4
                  have ln4 : b4.length ≤ bs.length + 50000 := by
                    have := HSM.out.2.2.1
                    rw [← hb4, List.length_append, length_flatK enc4 4 length_enc4]
                    omega
                  have hsz9 := HE9.out.bel.size
                  obtain ⟨_, _, _, e7, l7, f7, m7, at7⟩ := (HOK.out _ HE9.out.bel).b.d
                  dsimp only at e7 l7
                  injection e7 with e7 e8 e9
                  subst e7 e8 e9
                  obtain ⟨g7, o7, hA7, hg7, hx7⟩ := at7.out (by have := HBD.out; omega)
                  subst hA7
                  obtain ⟨y, hy⟩ : ∃ y, pc.bd = [y] := by
                    have := HBD.out
                    match h : pc.bd, this with
                    | [y], _ => exact ⟨y, rfl⟩
                  have k7 := hx7 0 (.int .i64 y) (by rw [hy]; rfl)
                  have a7 : g7 < wr.heap.size := by omega
                  have j7 : 0 < pc.bd.length := by have := HBD.out; omega
                  have HHD : Hid (pc.bd.headD 0 = y) := Lib.hid (by rw [hy]; rfl)
                  rw [Nat.add_zero] at k7
                  clear at7 hx7 l7 f7 m7 hlt9 hb4 hy
                  go_wp2_with fail
                  refine (u16_any _ w.heap.size w2.heap.size u9 _ HE9.out.wr HE9.out.bel.size y _ (wrapNat y) (by omega)).mono ?_
                  rintro en wb ⟨rfl, vb, hwb, hfb, hob⟩
                  have HSb := Lib.hid (HE9.out.put hwb hfb hob)
                  have kx := Lib.hid HSb.out.get
                  dsimp only at kx
                  have lx := kx.out.lt
                  have hsm5 := HSM.out.2.2.2.2.1
                  have HNU := Lib.hid (numbers_any w wb B w2.heap.size vb (b4 ++ beB (IntKind.u64.wrap y).toNat 2) _ _ _ _ _ _ HSb.out (HOK.out _ HSb.out.bel).b hB (by rw [List.length_append, length_beB]; dsimp only; omega))
                  dsimp only at HNU
                  clear m0 m1 m2 m3 m4 m5 m6 hwb hfb hob HE9 k7 a7
                  have m0 := kx.out.cell 0
                  have m1 := kx.out.cell 1
                  have m2 := kx.out.cell 2
                  have m3 := kx.out.cell 3
                  have m4 := kx.out.cell 4
                  have m5 := kx.out.cell 5
                  have m6 := kx.out.cell 6
                  simp only [List.getElem?_cons_zero, List.getElem?_cons_succ] at m0 m1 m2 m3 m4 m5 m6
                  go_wp2_with fail
                  refine HNU.out.mono ?_
                  rintro en wc ⟨rfl, vc, hEc⟩
                  have HEc := Lib.hid hEc
                  clear m0 m1 m2 m3 m4 m5 m6 hEc HNU HSb
                  go_wp2
                  go_roundw
                  case rel => exact ⟨j + 1, vc, by omega, by go_num, by
                    have he : bh ++ ((ps.map (·.c)).take (j + 1)).flatMap encP = b4 ++ beB (IntKind.u64.wrap y).toNat 2 ++ encT pc.be pc.bx := by
                      rw [HNX.out, ← List.append_assoc, HBS.out, HP.out, ← List.append_assoc, HB1.out]
                      unfold encR
                      rw [HHD.out, ← HB4.out, ← HB3.out, ← HB2'.out]
                      simp only [List.append_assoc]
                      rfl
                    rw [he]
                    exact Lib.hid (HEc.out.less (fun b hb => absurd hb (by simp)))⟩
                  case measure => simp [intOf]; omega
      · obtain rfl : j = ps.length := by omega
        rw [List.take_of_length_le (by simp)] at HE
        have HEQ : Hid (bh ++ (ps.map (·.c)).flatMap encP = encS ⟨seed, step, .slice A ps.length k, ps⟩) := Lib.hid (by rw [← HBH.out]; unfold encS encC; rw [List.length_map])
        have ln : (encS ⟨seed, step, .slice A ps.length k, ps⟩).length ≤ 140737488355328 := by
          have h1 := length_encPs (cs := ps.map (·.c)) (fun c hc => by
            obtain ⟨q, hq, rfl⟩ := List.mem_map.1 hc
            exact HMS.out.2.2 q hq)
          have h2 := HMS.out.2.1
          have h3 := HBL.out
          rw [← HEQ.out, List.length_append]
          rw [List.length_map] at h1
          omega
        rw [HEQ.out] at HE
        go_wp2_with fail
        refine (bytes_any _ w.heap.size w2.heap.size u _ HE.out.wr ln).mono ?_
        rintro en w8 ⟨A8, c8, rfl, hown8, hb8⟩
        have HO := Lib.hid (own_lower hown8 HE.out.bel.size)
        have HB8 := Lib.hid (HE.out.bel.trans (hb8.mono HE.out.bel.size))
        clear hown8 hb8 HE ln HEQ
        go_wp2
        refine bodyPost_ret (v := .tuple #[.slice A8 (encS ⟨seed, step, .slice A ps.length k, ps⟩).length c8, .int .i64 0]) (by simp [results, Try.results14, go_sem]) rfl ?_
        exact ⟨HB8.out, .inr ⟨HR.out, A8, c8, rfl, HO.out⟩⟩
end Go.Proofs.Ytcjpibdgnjncmaa
