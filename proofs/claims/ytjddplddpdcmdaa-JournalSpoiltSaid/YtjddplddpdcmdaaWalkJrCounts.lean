/- The walk of JournalCounts. -/
import Derived.Test.YtjddplddpdcmdaaJrAwake
import Derived.Test.YtjddplddpdcmdaaJrLaw3P
import Derived.Test.YtjddplddpdcmdaaOpen6
namespace Go.Proofs.Ytjddplddpdcmdaa
open Go.RowKit
set_option linter.unusedVariables false
set_option linter.unusedSimpArgs false

section
variable {w0 w W W' : World} {ds ds' : List (Nat × Dk)} {bs bs' : List (Nat × TypeId × List Value)} {rs rs' rs0 : List (Nat × Value × List Value)} {d q q2 g k n sz : Nat} {s s' : Dk} {j j' j2 : Jr} {v u lv : Value} {t : TypeId} {cs xs : List Value}
theorem JD.swap (h : JD w0 W ds d s q2 j2 ((q, 66, jcells d lv j) :: bs) rs) (hl : (1, lv, bytesV j.last) ∈ rs) (hok : j.Ok s.now.length) :
    ∃ lv2, JD w0 W ds d s q j ((q2, 66, jcells d lv2 j2) :: bs) rs ∧ (1, lv2, bytesV j2.last) ∈ rs := by
  obtain ⟨lv2, h1, h2, h3⟩ := h
  exact ⟨lv2, ⟨lv, h1.permB (.swap _ _ _), hl, hok⟩, h2⟩
theorem JD.dropB {b : Nat × TypeId × List Value} (h : JD w0 W ds d s q j (b :: bs) rs) : JD w0 W ds d s q j bs rs := by
  obtain ⟨lv, h1, h2, h3⟩ := h
  exact ⟨lv, (h1.permB (.swap _ _ _)).dropB, h2, h3⟩
end
theorem jr_eta {j : Jr} {half : Nat} (h1 : j.half = half) (h2 : j.broken = false) : (⟨half, j.slot, j.gen, j.last, false⟩ : Jr) = j := by
  cases j
  simp only at h1 h2
  subst h1 h2
  rfl
theorem open_same {j : Jr} {s : Dk} (h : JS j s none) (hup : s.up) : openJ s = (s.oper.flushed, 0, j) ∧ JS j s.oper.flushed none ∧ s.oper.flushed.up := by
  obtain ⟨h1, h2, h3⟩ := h.free_ rfl
  have hh := h.sure
  rw [← h3, h.jok.half] at hh
  have hl := h.jok.last
  rw [h.jok.half] at hl
  have hr := open_law h.sok h.jok.four hup hh h.jok.gen hl
  rwa [jr_eta h.jok.half h1] at hr
/-- a journal on a new disk -/
theorem open_new (n : Nat) (h4 : 4 ≤ n) (h9 : n ≤ 4096) : ∃ s j, openJ (Dk.new n) = (s, 0, j) ∧ JS j s none ∧ s.up ∧ j.gen = 0 ∧ j.half = n / 2 ∧ s.ops = 1 ∧ j.slot = 1 := by
  have hl : (Dk.new n).now.length = n := by simp [Dk.new]
  have hh := new_holds n h4
  have hr := open_law (s := Dk.new n) (slot := 1) (gen := 0) (last := []) (Dk.new_ok h9) (by rw [hl]; exact h4) (Dk.up_new n) (by rw [hl]; exact hh) (by omega) (by simp)
  exact ⟨_, _, hr.1, hr.2.1, hr.2.2, rfl, by simp only; rw [hl], rfl, rfl⟩
set_option maxHeartbeats 12800000 in
set_option maxRecDepth 100000 in
theorem journalCounts_walk (v0 : Value) (l : List (Value × List UInt8)) (w : World) (o0 : RowsOf w v0 l) :
    Calls Try.prog 3 #[v0] w fun en w' => en = .returned (.bool true) ∧ Below w.heap.size w w' := by
  obtain ⟨A0, c0, rfl⟩ := o0.form
  have hlen := o0.len
  have HL := Lib.hid o0
  clear o0
  obtain ⟨s1, j1, hop, hjs, hup, hg0, hhf, hops, _⟩ := open_new 20 (by decide) (by decide)
  have HOP := Lib.hid hop
  have HJS := Lib.hid hjs
  have HUP := Lib.hid hup
  have HG0 := Lib.hid hg0
  have HHF : Hid (j1.half = 10) := Lib.hid hhf
  have HO1 : Hid (s1.ops ≤ 1) := Lib.hid (by omega)
  clear hop hjs hup hg0 hhf hops
  go_enter Try.func3, Try.ntmps3
  go_wp2_with fail
  refine (dm_new (DM.start w) 20 20 (by decide)).mono ?_
  rintro en w1 ⟨d, rfl, h⟩
  have D1 := Lib.hid h
  clear h
  go_wp2_with fail
  refine (jopen_any D1.out (by decide)).mono ?_
  rw [HOP.out]
  rintro en w2 h
  rcases h with ⟨h, _⟩ | ⟨_, q, rs1, rfl, _, hj⟩
  · exact absurd rfl h
  have J1 := Lib.hid hj
  clear hj D1 HOP
  dsimp only
  go_wp2_with fail
  refine (jgen_any J1.out).mono ?_
  rw [HG0.out]
  rintro en w3 ⟨rfl, rfl⟩
  go_wp2
  go_loopw [33] (fun i wr => ∃ (k : Nat) (j : Jr) (s : Dk) (rs : List (Nat × Value × List Value)), k ≤ l.length ∧ k ≤ 20 ∧ i = .int .i64 k ∧ Hid (JS j s none) ∧ Hid s.up ∧ Hid (j.gen = k) ∧ Hid (j.half = 10) ∧ Hid (s.ops ≤ 4000 * k + 1) ∧ Hid (JD w wr [] d s q j [] rs)) (fun i _ => l.length - (intOf i).toNat)
  case atStart => exact ⟨0, j1, s1, rs1, by omega, by omega, rfl, HJS, HUP, HG0, HHF, HO1, J1⟩
  case round =>
    obtain ⟨k, j, s, rs, hk, hk2, rfl, hjs, hup, hgn, hhf, hops, hjd⟩ := hrel
    clear J1 HJS HUP HG0 HHF HO1
    by_cases hlt : k < l.length
    · obtain ⟨g, o, c, e, e1, hlk, hok, hg, q0⟩ := HL.out.at_ hlt
      injection e1 with e1 _ e3
      subst e1 e3
      obtain ⟨bv, b⟩ := e
      obtain ⟨hraw, hbl⟩ := hok
      simp only at q0 hraw hbl
      obtain ⟨Ab, cb, rfl, _, _⟩ := hraw.form
      have r0 := (hjd.out.bel.cell (p := ⟨g, o + k, none⟩) hg).trans q0
      have hgr : g < wr.heap.size := by have := hjd.out.bel.size; omega
      rw [length_bytesV] at r0 hraw
      have HRAW := Lib.hid hraw
      have HBL := Lib.hid hbl
      have i0 : (0 : Int) ≤ (k : Int) := by omega
      have i1 : (k : Int) < (l.length : Int) := by omega
      clear q0 hraw hlk
      by_cases h20 : 20 ≤ k
      · have t20 : decide ((20 : Int) ≤ (k : Int)) = true := by simp; omega
        go_wp2_with fail
        refine (awake6_any _).mono ?_
        rintro en w8 ⟨rfl, hb⟩
        have J8 := Lib.hid (hjd.out.below hb)
        clear hb
        go_wp2
        go_ret
        exact ⟨rfl, J8.out.bel⟩
      · have t20 : decide ((20 : Int) ≤ (k : Int)) = false := by simp; omega
        have HROOM : Hid (roomJ j = 576) := Lib.hid (by unfold roomJ; rw [hhf.out])
        have hbm : (b.length : Int) ≤ 140737488351232 := by omega
        go_wp2_with fail
        refine (jroom_any hjd.out).mono ?_
        rw [HROOM.out]
        rintro en w4 ⟨rfl, rfl⟩
        by_cases hbr : 576 < b.length
        · have t1 : decide ((576 : Int) < (b.length : Int)) = true := by simp; omega
          have t2 : decide (576 < b.length) = true := by simp; omega
          clear hbr
          go_wp2_with fail
          refine (awake6_any _).mono ?_
          rintro en w8 ⟨rfl, hb⟩
          have J8 := Lib.hid (hjd.out.below hb)
          clear hb
          go_wp2
          go_ret
          exact ⟨rfl, J8.out.bel⟩
        · have t1 : decide ((576 : Int) < (b.length : Int)) = false := by simp; omega
          have t2 : decide (576 < b.length) = false := by simp; omega
          obtain ⟨jn, sn, e, hce, hends, hcu, hcl, hco⟩ := commit_law hjs.out (b := b) (by rw [HROOM.out]; omega) (by rw [hgn.out]; omega)
          obtain ⟨rfl, hcu2⟩ := hcu hup.out
          rcases hends with ⟨_, hjn, hjs2⟩ | ⟨h9, _⟩
          case inr => exact absurd h9 (by decide)
          have HCE := Lib.hid hce
          have HJN : Hid (jn.gen = k + 1) := Lib.hid (by rw [hjn]; simp only; rw [hgn.out])
          have HJH : Hid (jn.half = 10) := Lib.hid (by rw [hjn]; exact hhf.out)
          have HJL : Hid (lastJ jn = b) := Lib.hid (by rw [hjn]; unfold lastJ; simp only; rw [if_neg (by omega)])
          have HG1 : Hid (decide (jn.gen ≠ 0) = true) := Lib.hid (by rw [hjn]; simp)
          have HJS2 := Lib.hid hjs2
          have HUP2 := Lib.hid hcu2
          have HOP2 : Hid (sn.ops ≤ 4000 * k + 3001) := Lib.hid (by have := hops.out; omega)
          have HOB : Hid (s.ops < 900000000) := Lib.hid (by have := hops.out; omega)
          obtain ⟨ho1, ho2, ho3⟩ := open_same hjs2 hcu2
          have HOE := Lib.hid ho1
          have HJS3 := Lib.hid ho2
          have HUP3 := Lib.hid ho3
          have HOP3 : Hid (sn.oper.flushed.ops ≤ 4000 * ((k + 1 : Nat) : Int) + 1) := Lib.hid (by show sn.ops + 1 ≤ _; have := HOP2.out; omega)
          clear hbr hce hjn hjs2 hcu hcu2 hcl hco ho1 ho2 ho3 hops
          generalize sn.oper.flushed = s3 at HOE HJS3 HUP3 HOP3
          go_wp2_with fail
          refine (jcommit_any hjd.out HOB.out _ b (.inl HRAW.out) (by omega)).mono ?_
          rw [HCE.out]
          rintro en w5 ⟨rfl, rs5, _, hj⟩
          have J5 := Lib.hid hj
          clear hj hjd HCE
          have ew : IntKind.u32.wrap ((k : Int) + 1) = (k : Int) + 1 := by rw [IntKind.wrap_u32]; omega
          have eg : ((k + 1 : Nat) : Int) = (k : Int) + 1 := by omega
          go_wp2_with fail
          refine (jgen_any J5.out).mono ?_
          rw [HJN.out]
          rintro en w6 ⟨rfl, rfl⟩
          obtain ⟨lv, hd5, hl5, hk5⟩ := J5.out
          have HD5 := Lib.hid hd5
          have HL5 := Lib.hid hl5
          clear hd5 hl5 hk5
          go_wp2_with fail
          refine (jopen_any HD5.out (by have := HOP2.out; omega)).mono ?_
          rw [HOE.out]
          rintro en w7 h
          rcases h with ⟨h, _⟩ | ⟨_, q7, rs7, rfl, hsub, hj⟩
          · exact absurd rfl h
          have J7 := Lib.hid hj
          obtain ⟨lv7, hj7, _⟩ := hj.swap (hsub _ HL5.out) HJS3.out.jok
          have I7 := Lib.hid hj7
          clear hj hsub hj7 J5 HD5 HL5
          dsimp only
          go_wp2_with fail
          refine (jgen_any J7.out).mono ?_
          rw [HJN.out]
          rintro en w8 ⟨rfl, rfl⟩
          go_wp2_with fail
          refine (jgen_any I7.out).mono ?_
          rw [HJN.out]
          rintro en w8 ⟨rfl, rfl⟩
          go_wp2_with fail
          refine (jlast_any I7.out).mono ?_
          rw [HJL.out, HG1.out]
          rintro en w8 ⟨A8, n8, c8, rfl, hb8, hr8⟩
          have I8 := Lib.hid (I7.out.below hb8)
          have J8 := Lib.hid (J7.out.below hb8)
          have HR8 := Lib.hid hr8.reads
          clear hb8 hr8 I7 J7
          dsimp only
          go_wp2_with fail
          refine (jlast_any J8.out).mono ?_
          rw [HJL.out, HG1.out]
          rintro en w9 ⟨A9, n9, c9, rfl, hb9, hr9⟩
          have I9 := Lib.hid (I8.out.below hb9)
          have s9 := run_strJ hr9.reads
          have s8 := run_strJ (HR8.out.below hb9)
          have s7 := run_strJ (HRAW.out.below I9.out.bel)
          have tyy : (b == b) = true := by simp
          have tyn : (b != b) = false := by simp
          clear hb9 hr9 I8 J8 HR8
          dsimp only
          go_wp2
          go_roundw
          case rel => exact ⟨k + 1, jn, s3, rs7, by omega, by omega, by go_num, HJS3, HUP3, HJN, HJH, HOP3, Lib.hid I9.out.dropB⟩
          case measure => simp [intOf]; omega
    · go_wp2_with fail
      refine (awake6_any _).mono ?_
      rintro en w8 ⟨rfl, hb⟩
      have J8 := Lib.hid (hjd.out.below hb)
      clear hb
      go_wp2
      go_ret
      exact ⟨rfl, J8.out.bel⟩
end Go.Proofs.Ytjddplddpdcmdaa
