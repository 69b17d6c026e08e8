/- Contract of journal.Journal's Commit. -/
import Derived.Test.YtjddplddpdcmdaaJrWrite
import Derived.Deep.RegionWith
namespace Go.Proofs.Ytjddplddpdcmdaa
open Go.RowKit
set_option linter.unusedVariables false
set_option linter.unusedSimpArgs false

def SubR (rs rs' : List (Nat × Value × List Value)) : Prop := ∀ x ∈ rs, x ∈ rs'
theorem SubR.refl (rs : List (Nat × Value × List Value)) : SubR rs rs := fun _ h => h
theorem SubR.cons (z : Nat × Value × List Value) (rs : List (Nat × Value × List Value)) : SubR rs (z :: rs) := fun _ h => .tail _ h
theorem SubR.trans {a b c : List (Nat × Value × List Value)} (h : SubR a b) (k : SubR b c) : SubR a c := fun x hx => k x (h x hx)
section
variable {w0 w W W' : World} {ds ds' : List (Nat × Dk)} {bs bs' : List (Nat × TypeId × List Value)} {rs rs' rs0 : List (Nat × Value × List Value)} {d q g k n : Nat} {s s' : Dk} {j j' : Jr} {v u : Value} {t : TypeId} {cs : List Value}
theorem putsJ_len (b : List UInt8) (f : Nat) : ∀ (k i : Nat) (s : Dk), (putsJ b f k i s).1.now.length = s.now.length
  | 0, i, s => rfl
  | k + 1, i, s => by
    rw [putsJ]
    split
    · exact Dk.write_len _ _ _
    · rw [putsJ_len b f k]; exact Dk.write_len _ _ _
set_option maxHeartbeats 6400000 in
set_option maxRecDepth 100000 in
theorem jcommit_any (h : JD w0 W ds d s q j bs rs) (ho : s.ops < 900000000) (v : Value) (b : List UInt8) (ha : ArgM w0 bs rs v b) (hbm : b.length ≤ 140737488355328) :
    Calls Try.prog 15 #[.pointer (some ⟨q, 0, none⟩), v] W fun en W' => en = .returned (.int .i64 (commitJ j s b).2.2) ∧ ∃ rs', SubR rs rs' ∧ JD w0 W' ds d (commitJ j s b).2.1 q (commitJ j s b).1 bs rs' := by
  have HJ := Lib.hid h
  obtain ⟨A9, c9, hq, k0, k1, k2, k3, k4, k5, _⟩ := h.cells
  obtain ⟨lv, hdm, hlv, hok⟩ := h
  have hA := hdm.argReads (ha.mono (bs' := (q, 66, jcells d lv j) :: bs) (fun y hy => .tail _ hy) (fun y hy => hy))
  obtain ⟨Ab, cb, rfl, _, _⟩ := hA.form
  have f5 := (hdm.blk (.head _)).free 5
  have HARG := Lib.hid ha
  have HOK := Lib.hid hok
  have HO := Lib.hid ho
  have HROOM := Lib.hid (jroom_any HJ.out)
  have HBM := Lib.hid hbm
  have hgl := hok.gen
  have hsl := hok.slot
  obtain ⟨n, hn⟩ : ∃ n, b.length = n := ⟨_, rfl⟩
  rw [length_bytesV, hn] at hA HARG ⊢
  have HN := Lib.hid hn
  clear hA ha hdm hlv hok ho k0 k1 k4 hbm
  obtain ⟨bk, hbk⟩ : ∃ x, j.broken = x := ⟨_, rfl⟩
  rw [hbk] at k5
  cases bk with
  | true =>
    have HC : Hid (commitJ j s b = (j, s, 11)) := Lib.hid (by unfold commitJ; rw [if_pos hbk])
    clear hbk hn
    go_enter Try.func15, Try.ntmps15
    go_wp2
    go_ret
    rw [HC.out]
    exact ⟨rfl, rs, SubR.refl _, HJ.out⟩
  | false =>
    by_cases hr : roomJ j < n
    · have t1 : decide ((roomJ j : Int) < (n : Int)) = true := by simp; omega
      have t2 : decide (roomJ j < n) = true := by simp; omega
      have HC : Hid (commitJ j s b = (j, s, 8)) := Lib.hid (by unfold commitJ; rw [if_neg (by rw [hbk]; simp), if_pos (.inl (by omega))])
      clear hbk hn hr
      generalize roomJ j = room at t1 t2 HROOM
      go_enter Try.func15, Try.ntmps15
      go_wp2_with fail
      refine HROOM.out.mono ?_
      rintro en w1 ⟨rfl, rfl⟩
      go_wp2
      go_ret
      rw [HC.out]
      exact ⟨rfl, rs, SubR.refl _, HJ.out⟩
    · have t1 : decide ((roomJ j : Int) < (n : Int)) = false := by simp; omega
      have t2 : decide (roomJ j < n) = false := by simp; omega
      by_cases hgm : j.gen = 4294967295
      · have t3 : ((j.gen : Int) == 4294967295) = true := by simp; omega
        have HC : Hid (commitJ j s b = (j, s, 8)) := Lib.hid (by unfold commitJ; rw [if_neg (by rw [hbk]; simp), if_pos (.inr hgm)])
        clear hbk hn hr hgm
        generalize roomJ j = room at t1 t2 HROOM
        go_enter Try.func15, Try.ntmps15
        go_wp2_with fail
        refine HROOM.out.mono ?_
        rintro en w1 ⟨rfl, rfl⟩
        go_wp2
        go_ret
        rw [HC.out]
        exact ⟨rfl, rs, SubR.refl _, HJ.out⟩
      · have t3 : ((j.gen : Int) == 4294967295) = false := by simp; omega
        obtain ⟨⟨sw, ew⟩, hwe⟩ : ∃ r, writeJ s j.half (1 - j.slot) (j.gen + 1) b = r := ⟨_, rfl⟩
        have HC : Hid (commitJ j s b = if ew ≠ 0 then ({ j with broken := true }, sw, ew) else ({ j with slot := 1 - j.slot, gen := j.gen + 1, last := b }, sw, 0)) := Lib.hid (by
          unfold commitJ
          rw [if_neg (by rw [hbk]; simp), if_neg (by omega)]
          simp only [hwe])
        have HWR := Lib.hid (jwrite_any HJ.out HO.out (1 - j.slot) (by omega) (j.gen + 1) (by omega) _ b HARG.out (by rw [HN.out]; omega))
        rw [hwe] at HWR
        have HBL : Hid (b.length ≤ (j.half - 1) * 64) := Lib.hid (by rw [HN.out]; unfold roomJ at hr; omega)
        have HG1 : Hid (j.gen + 1 ≤ 4294967295) := Lib.hid (by omega)
        have e1 : (1 : Int) - (j.slot : Int) = ((1 - j.slot : Nat) : Int) := by omega
        have e2 : IntKind.u32.wrap ((j.gen : Int) + 1) = ((j.gen + 1 : Nat) : Int) := by rw [IntKind.wrap_u32]; omega
        have hgen : (j.gen : Int) + 1 ≤ 4294967295 := by omega
        have e3 : ((j.gen + 1 : Nat) : Int) = (j.gen : Int) + 1 := by omega
        clear hbk hn hr hgm hwe hgl hsl
        generalize roomJ j = room at t1 t2 HROOM
        go_enter Try.func15, Try.ntmps15
        go_wp2_with fail
        refine HROOM.out.mono ?_
        rintro en w1 ⟨rfl, rfl⟩
        go_wp2_with fail
        refine HWR.out.mono ?_
        rintro en w1 ⟨rfl, hj⟩
        have HJ1 := Lib.hid hj
        clear hj HWR HROOM t1 t2
        obtain ⟨A9, c9, hq1, _, _, q2, q3, q4, q5, _⟩ := HJ1.out.cells
        obtain ⟨lv, h1, h2, h3⟩ := HJ1.out
        have hbk := h1.blk (.head _)
        have f2 := hbk.free 2
        have f3 := hbk.free 3
        have f4 := hbk.free 4
        have f5 := hbk.free 5
        simp only at f2 f3 f4 f5
        have HD1 := Lib.hid h1
        have HLV := Lib.hid h2
        have HOK1 := Lib.hid h3
        clear h1 h2 h3 hbk
        by_cases hez : ew = 0
        · subst hez
          have HC2 : Hid (commitJ j s b = ({ j with slot := 1 - j.slot, gen := j.gen + 1, last := b }, sw, 0)) := Lib.hid (by rw [HC.out, if_neg (by omega)])
          clear HC
          have hrb := HD1.out.argReads (HARG.out.mono (bs' := (q, 66, jcells d lv j) :: bs) (fun y hy => .tail _ hy) (fun y hy => hy))
          have HRB := Lib.hid hrb
          have HCL : Hid (b.length ≤ 140737488355328) := HBM
          clear hrb
          have HSZ : Hid (w1.heap.size ≤ w1.drew.heap.size) := Lib.hid (Nat.le_refl _)
          go_upto_region 12 with fail
          go_region_with (go_at_call 35; go_loud ((with_reducible refine (clone_any w1.drew w1.heap.size _ b HRB.out.drew HSZ.out HCL.out).mono ?_); rintro e w6 ⟨A6, c6, rfl, hown6, hb6⟩; have HD6 := Lib.hid (HD1.out.drew.below hb6); have hbk := HD6.out.blk (.head _); have m2 := hbk.cell 2; have m3 := hbk.cell 3; have m4 := hbk.cell 4; have n2 := hbk.free 2; have n3 := hbk.free 3; have n4 := hbk.free 4; simp only [jcells, List.getElem?_cons_zero, List.getElem?_cons_succ] at m2 m3 m4 n2 n3 n4; have hq6 := hbk.lt; simp only at hq6))
          all_goals
            have hd8 := HD1.out.drew.read (sz := 1) (v := .slice A6 b.length c6) (xs := bytesV b) hb6 (own_readsIn (T := fun i => w1.drew.heap.size ≤ i) (by omega) hown6 (fun i hi => (hown6.lt i hi).1))
            have hd9 := Lib.hid (((hd8.put 2 (.int .i64 ((1 - j.slot : Nat) : Int))).put 3 (.int .u32 ((j.gen : Int) + 1))).put 4 (.slice A6 b.length c6))
            clear hd8 HD6 hown6 hb6
            go_wp2
            go_ret
            rw [HC2.out]
            exact ⟨rfl, _, SubR.cons _ _, _, hd9.out, .head _, HOK1.out.half, HOK1.out.four, HOK1.out.most, (by simp only; omega), HG1.out, HBL.out⟩
        · have t4 : (ew != 0) = true := by simpa using hez
          have HC2 : Hid (commitJ j s b = ({ j with broken := true }, sw, ew)) := Lib.hid (by rw [HC.out, if_pos hez])
          clear HC hez
          go_wp2
          go_ret
          rw [HC2.out]
          exact ⟨rfl, rs, SubR.refl _, lv, HD1.out.put 5 (.bool true), HLV.out, HOK1.out.half, HOK1.out.four, HOK1.out.most, HOK1.out.slot, HOK1.out.gen, HOK1.out.last⟩
end
end Go.Proofs.Ytjddplddpdcmdaa
