/- codec.Decode as it is used; law 24's light and awake. -/
import Derived.Test.YtcjpibdgnjncmaaCodEnc
import Derived.Test.YtcjpibdgnjncmaaCodDec3
import Derived.Test.YtcjpibdgnjncmaaCodInvP
namespace Go.Proofs.Ytcjpibdgnjncmaa
open Go.RowKit
set_option linter.unusedVariables false
set_option linter.unusedSimpArgs false

def StV.cs (s : StV) : List ParC := s.ps.map (·.c)
theorem StV.encS_eq (s : StV) : encS s = encC s.seed s.step s.cs := rfl
theorem stOf_okN {w : World} {B : Nat} {v : Value} {s : StV} (h : StOf w B v s) (hm : mayS s = true) : okN s.seed s.step s.cs := by
  obtain ⟨h1, h2, h3⟩ := mayS_of hm
  refine ⟨h.seed, h1, by unfold StV.cs; rw [List.length_map]; exact h2, fun p hp => ?_⟩
  obtain ⟨q, hq, rfl⟩ := List.mem_map.1 hp
  have hok := h.ps.ok.out q hq
  exact ⟨h3 q hq, hok.t.xb.out, hok.b.xb.out⟩
theorem okN_mayS {s : StV} (h : okN s.seed s.step s.cs) : mayS s = true := by
  obtain ⟨_, h1, h2, h3⟩ := h
  unfold mayS
  unfold StV.cs at h2 h3
  rw [List.length_map] at h2
  simp only [Bool.and_eq_true, decide_eq_true_eq, List.all_eq_true]
  exact ⟨h1.1, h1.2, h2, fun p hp => (h3 p hp).1⟩
/-- the state that Decode tells -/
def DecUse (w : World) (bs : List UInt8) (en : Ending) (w' : World) : Prop :=
  ∃ (A : Option Addr) (c : Nat) (ps : List ParV), en = .returned (.tuple #[.agg #[.int .u64 (decode bs).2.1, .int .i64 (decode bs).2.2.1, .slice A ps.length c], .int .i64 (decode bs).1]) ∧ Below w.heap.size w w' ∧
    StOf w' w'.heap.size (.agg #[.int .u64 (decode bs).2.1, .int .i64 (decode bs).2.2.1, .slice A ps.length c]) ⟨(decode bs).2.1, (decode bs).2.2.1, .slice A ps.length c, ps⟩ ∧ ps.map (·.c) = (decode bs).2.2.2
theorem cdec_use (v : Value) (bs : List UInt8) (w : World) (B : Nat) (hB : B ≤ w.heap.size) (h : Reads w B v (bytesV bs)) (hl : bs.length ≤ 140737488351232) : Calls Try.prog 11 #[v] w (DecUse w bs) := by
  refine (cdec_any v bs w B hB h hl).mono ?_
  rintro en w' ⟨hb, ps, u, rfl, h1, h2, hown, hins⟩
  have hlen : ps.length ≤ 12 ∧ ps.map (·.c) = (decode bs).2.2.2 ∧ (0 ≤ (decode bs).2.1 ∧ (decode bs).2.1 < 18446744073709551616) ∧ (-9223372036854775808 ≤ (decode bs).2.2.1 ∧ (decode bs).2.2.1 ≤ 9223372036854775807) := by
    by_cases he : (decode bs).1 = 0
    · obtain ⟨k1, k2, k3, k4⟩ := (decode_inv he).1
      have h3 := h1 he
      refine ⟨?_, h3, k1, by omega⟩
      rw [← h3, List.length_map] at k3
      exact k3
    · obtain ⟨k1, k2, k3⟩ := decode_none he
      rw [k1, k2, k3, h2 he]
      exact ⟨by simp, rfl, by omega, by omega⟩
  obtain ⟨hl12, hcs, hsd, hst⟩ := hlen
  obtain ⟨A, c, rfl⟩ := own_form hown
  refine ⟨A, c, ps, rfl, hb, ⟨rfl, hsd, hst, ?_⟩, hcs⟩
  exact ⟨ReadsN.of_own (by omega) hown, Lib.hid (fun x hx => (hins x hx).ok), ⟨A, c, rfl⟩, by dsimp only; omega⟩
def LightB (w : World) (e : Ending) (w' : World) : Prop := (∃ r : Bool, e = .returned (.bool r)) ∧ Below w.heap.size w w'
set_option maxHeartbeats 1600000 in
set_option maxRecDepth 100000 in
theorem light_any (v : Value) (s : StV) (w : World) (B : Nat) (hB : B ≤ w.heap.size) (h : StOf w B v s) : Calls Try.prog 8 #[v] w (LightB w) := by
  obtain ⟨seed, step, lv, ps⟩ := s
  obtain ⟨rfl, _, _, hp⟩ := h
  dsimp only at hp ⊢
  obtain ⟨A, c, rfl⟩ := hp.form
  have hlen := hp.len
  have hb0 := (Below.refl w.heap.size w).alloc (Nat.le_refl _) (.cells #[.int .u64 seed, .int .i64 step, .slice A ps.length c] 25)
  have K0 := Lib.hid (Blk.fresh w 25 [.int .u64 seed, .int .i64 step, .slice A ps.length c])
  have HP := Lib.hid hp
  have HB := Lib.hid hb0
  have hs0 : w.heap.size < (w.alloc (.cells #[.int .u64 seed, .int .i64 step, .slice A ps.length c] 25)).heap.size := by simp
  have m0 := K0.out.cell 0
  have m1 := K0.out.cell 1
  have m2 := K0.out.cell 2
  simp only [List.getElem?_cons_zero, List.getElem?_cons_succ] at m0 m1 m2
  clear hp hb0
  go_enter Try.func8, Try.ntmps8
  go_wp2_with fail
  clear m0 m1 m2 hs0
  go_loopw [3, 9] (fun t i wr => ∃ (k : Nat) (n : Int), k ≤ ps.length ∧ i = .int .i64 k ∧ t = .int .i64 n ∧ 0 ≤ n ∧ n ≤ 2000 ∧ Hid (Below w.heap.size w wr)) (fun _ i _ => ps.length - (intOf i).toNat)
  case atStart => exact ⟨0, 0, by omega, rfl, rfl, by omega, by omega, HB⟩
  case round =>
    obtain ⟨k, n, hk, rfl, rfl, n0, n1, HBR⟩ := hrel
    by_cases hlt : k < ps.length
    · obtain ⟨gp, op, cp, u, e1, hu, hok, hgp, q0, q1, q2, q3, q4, q5, q6⟩ := (HP.out.below (HBR.out.mono hB)).at_ hlt
      injection e1 with e1 _ e3
      subst e1 e3
      have s0 := HBR.out.size
      have i1 : (0 : Int) ≤ (k : Int) := by omega
      have i2 : (k : Int) < (ps.length : Int) := by omega
      have hln := hok.ln
      obtain ⟨A1, c1, A2, c2, f1, f2⟩ := hok.t.form
      obtain ⟨A3, c3, f3, _, _⟩ := hok.m.form
      obtain ⟨A4, c4, A5, c5, f4, f5⟩ := hok.b.form
      rw [length_ints] at f3
      obtain ⟨pwd, pwx, pmv, pbd, pbx, pc⟩ := u
      dsimp only at f1 f2 f3 f4 f5 q0 q1 q2 q3 q4 q5 q6 hln
      subst f1 f2 f3 f4 f5
      unfold lenP at hln
      have hgr : gp < wr.heap.size := by omega
      have HB2 := Lib.hid (HBR.out.alloc s0 (.cells #[.slice A1 pc.wd.length c1, .int .i64 pc.we, .slice A2 pc.wx.length c2, .slice A3 pc.m.length c3, .slice A4 pc.bd.length c4, .int .i64 pc.be, .slice A5 pc.bx.length c5] 43))
      have KX := Lib.hid (Blk.fresh wr 43 [.slice A1 pc.wd.length c1, .int .i64 pc.we, .slice A2 pc.wx.length c2, .slice A3 pc.m.length c3, .slice A4 pc.bd.length c4, .int .i64 pc.be, .slice A5 pc.bx.length c5])
      have lx := KX.out.lt
      have m2 := KX.out.cell 2
      have m3 := KX.out.cell 3
      have m6 := KX.out.cell 6
      simp only [List.getElem?_cons_zero, List.getElem?_cons_succ] at m2 m3 m6
      clear hu hok
      go_upto_region 6 with fail
      clear q0 q1 q2 q3 q4 q5 q6 m2 m3 m6
      by_cases h20 : 20 ≤ k
      · have t1 : decide (20 ≤ (k : Int)) = true := decide_eq_true (by omega)
        go_wp2_with fail
        go_ret
        exact ⟨⟨_, rfl⟩, HB2.out⟩
      · have t1 : decide (20 ≤ (k : Int)) = false := decide_eq_false (by omega)
        by_cases hn : 2000 < n + ((pc.wx.length : Int) + (pc.m.length : Int) + (pc.bx.length : Int))
        · have t2 : decide (2000 < n + ((pc.wx.length : Int) + (pc.m.length : Int) + (pc.bx.length : Int))) = true := decide_eq_true hn
          go_wp2_with fail
          go_ret
          exact ⟨⟨_, rfl⟩, HB2.out⟩
        · have t2 : decide (2000 < n + ((pc.wx.length : Int) + (pc.m.length : Int) + (pc.bx.length : Int))) = false := decide_eq_false hn
          go_wp2_with fail
          go_roundw
          case rel => exact ⟨k + 1, n + ((pc.wx.length : Int) + (pc.m.length : Int) + (pc.bx.length : Int)), by omega, by go_num, rfl, by omega, by omega, HB2⟩
          case measure => simp [intOf]; omega
    · obtain rfl : k = ps.length := by omega
      go_wp2_with fail
      go_ret
      exact ⟨⟨_, rfl⟩, HBR.out⟩
set_option maxHeartbeats 1600000 in
set_option maxRecDepth 100000 in
theorem awake24_any (w : World) : Calls Try.prog 9 #[] w fun en w' => en = .returned (.bool true) ∧ Below w.heap.size w w' := by
  have hs : StOf w w.heap.size (.agg #[.int .u64 5, .int .i64 7, .slice none 0 0]) ⟨5, 7, .slice none 0 0, []⟩ := ⟨rfl, by dsimp only; omega, by dsimp only; omega, ParsOf.nil_ _ _⟩
  have hm : mayS ⟨5, 7, .slice none 0 0, []⟩ = true := rfl
  have HE := Lib.hid (cenc_any _ _ w w.heap.size (Nat.le_refl _) hs)
  have hok := stOf_okN hs hm
  have hd := decode_ok hok []
  rw [List.append_nil, if_pos rfl] at hd
  have hl : (encS ⟨5, 7, .slice none 0 0, []⟩).length = 17 := by rw [StV.encS_eq]; unfold encC; rw [List.length_append, length_encH]; rfl
  have HD : Hid (decode (encS ⟨5, 7, .slice none 0 0, []⟩) = (0, 5, 7, [])) := Lib.hid hd
  have HL := Lib.hid hl
  have HM := Lib.hid hm
  have hsn := Lib.hid hl
  have t17 : (((encS ⟨5, 7, .slice none 0 0, []⟩).length : Int) == 17) = true := by rw [hl]; rfl
  clear hs hok hd hl hm
  go_enter Try.func9, Try.ntmps9
  go_wp2_with fail
  refine HE.out.mono ?_
  rintro en w1 ⟨hb1, ⟨hf, _⟩ | ⟨_, A1, c1, rfl, hown⟩⟩
  · rw [HM.out] at hf
    cases hf
  · have HD1 := Lib.hid (cdec_use _ _ w1 w1.heap.size (Nat.le_refl _) (Reads.of_own hown) (by rw [HL.out]; omega))
    have HB1 := Lib.hid hb1
    clear hb1 hown
    generalize encS ⟨5, 7, .slice none 0 0, []⟩ = bs at HD HL t17 hsn HD1 ⊢
    dsimp only
    go_wp2_with fail
    refine HD1.out.mono ?_
    rintro en w2 ⟨A2, c2, ps, rfl, hb2, hst, _⟩
    rw [HD.out]
    dsimp only
    have HB2 := Lib.hid ((HB1.out.trans (hb2.mono HB1.out.size)).alloc (HB1.out.trans (hb2.mono HB1.out.size)).size (.cells #[.int .u64 5, .int .i64 7, .slice A2 ps.length c2] 25))
    have KX := Lib.hid (Blk.fresh w2 25 [.int .u64 5, .int .i64 7, .slice A2 ps.length c2])
    have lx := KX.out.lt
    have m0 := KX.out.cell 0
    have m1 := KX.out.cell 1
    have m2 := KX.out.cell 2
    simp only [List.getElem?_cons_zero, List.getElem?_cons_succ] at m0 m1 m2
    clear hb2 hst
    go_wp2_with fail
    go_ret
    exact ⟨rfl, HB2.out⟩
end Go.Proofs.Ytcjpibdgnjncmaa
