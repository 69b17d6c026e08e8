/- Contracts of sector.Disk's methods: Len, has, Down, Ops, operation, Fuse. -/
import Derived.Test.YtjddplddpdcmdaaSecMem
namespace Go.Proofs.Ytjddplddpdcmdaa
open Go.RowKit
set_option linter.unusedVariables false
set_option linter.unusedSimpArgs false

section
variable {B p : Nat} {O O' T : Nat → Prop} {w w' w2 : World} {s s' s2 : Dk} {nv sv lv : Value}
theorem DAt.turn (h : DAt B w p nv sv lv s) (ho : Off (fun i => i = p) w w') (hb : Blk w' p 64 [nv, sv, lv, .int .i64 s'.ops, .int .i64 s'.fuse, .bool s'.down]) (e1 : s'.now = s.now) (e2 : s'.sure = s.sure) (e3 : s'.log = s.log) (hok : s'.Ok) : DAt B w' p nv sv lv s' := by
  refine ⟨hb, ?_, ?_, ?_, h.pB, h.np, h.sp, h.lp, h.ns, h.nl, h.sl, hok⟩
  · rw [e1]; exact own_off h.now ho (fun k hk e => h.np (by rw [hk, e]))
  · rw [e2]; exact own_off h.sure ho (fun k hk e => h.sp (by rw [hk, e]))
  · rw [e3]; exact own_off h.log ho (fun k hk e => h.lp (by rw [hk, e]))
theorem Did.trans (h : Did B O w p s w') (k : Did B (More O w.heap.size w'.heap.size) w' p s2 w2) : Did B O w p s2 w2 := by
  have hs := h.off.size
  have hs2 := k.off.size
  refine ⟨k.is.imp (fun i hi hl hb => ?_), h.off.trans k.off (fun i hi => ?_)⟩
  · rcases hi with (hi | hi) | hi
    · exact .inl hi
    · exact .inr (by omega)
    · exact .inr (by omega)
  · rcases hi with hi | hi
    · exact .inl hi
    · exact .inr hi.1
theorem slen_any (h : DiskIs B O w p s) : Calls Try.prog 31 #[.pointer (some ⟨p, 0, none⟩)] w fun en w' => en = .returned (.int .i64 (s.now.length : Int)) ∧ w = w' := by
  obtain ⟨nv, sv, lv, hd, hO⟩ := h
  obtain ⟨A, c, rfl⟩ := own_form hd.now
  have k0 := hd.blk.cell 0
  simp only [List.getElem?_cons_zero] at k0
  clear hd hO
  go_enter Try.func31, Try.ntmps31
  go_wp2
  go_ret
  exact ⟨rfl, rfl⟩
theorem shas_any (h : DiskIs B O w p s) (i : Int) (b : Bool) (hb : s.hasI i = b) : Calls Try.prog 36 #[.pointer (some ⟨p, 0, none⟩), .int .i64 i] w fun en w' => en = .returned (.bool b) ∧ w = w' := by
  subst hb
  have HL := Lib.hid (slen_any h)
  have hm := h.ok.most
  clear h
  unfold Dk.hasI
  by_cases h0 : 0 ≤ i
  · have t0 : decide (0 ≤ i) = true := by simp; omega
    have HT : Hid ((decide (0 ≤ i) && decide (i < (s.now.length : Int))) = decide (i < (s.now.length : Int))) := Lib.hid (by rw [t0, Bool.true_and])
    go_enter Try.func36, Try.ntmps36
    go_wp2_with (go_at_call 31; refine HL.out.mono ?_; rintro en w' ⟨rfl, rfl⟩)
    go_ret
    exact ⟨by rw [HT.out]; rfl, rfl⟩
  · have t0 : decide (0 ≤ i) = false := by simp; omega
    
    go_enter Try.func36, Try.ntmps36
    go_wp2
    go_ret
    exact ⟨rfl, rfl⟩
theorem sops_any (h : DiskIs B O w p s) : Calls Try.prog 48 #[.pointer (some ⟨p, 0, none⟩)] w fun en w' => en = .returned (.int .i64 s.ops) ∧ w = w' := by
  obtain ⟨nv, sv, lv, hd, hO⟩ := h
  have k3 := hd.blk.cell 3
  simp only [List.getElem?_cons_zero, List.getElem?_cons_succ] at k3
  clear hd hO
  go_enter Try.func48, Try.ntmps48
  go_wp2
  go_ret
  exact ⟨rfl, rfl⟩
set_option maxHeartbeats 800000 in
theorem soper_any (h : DiskIs B O w p s) (ho : s.ops < 4611686018427387904) : Calls Try.prog 37 #[.pointer (some ⟨p, 0, none⟩)] w fun en w' => en = .returned (.bool (!s.oper.down)) ∧ Did B O w p s.oper w' := by
  obtain ⟨nv, sv, lv, hd, hO⟩ := h
  have h0 := hd.ok.ops0
  have k3 := hd.blk.cell 3
  have k4 := hd.blk.cell 4
  have k5 := hd.blk.cell 5
  have f3 := hd.blk.free 3
  have f5 := hd.blk.free 5
  simp only [List.getElem?_cons_zero, List.getElem?_cons_succ] at k3 k4 k5
  have HD := Lib.hid hd
  have HO := Lib.hid hO
  have HP := Lib.hid (hO p (.inl rfl))
  have HK := Lib.hid (Dk.oper_ok hd.ok)
  clear hd hO
  obtain ⟨now, sure, log, ops, fuse, down⟩ := s
  simp only at ho h0 k3 k4 k5
  by_cases hf : ops + 1 = fuse
  · subst hf
    have t1 : (ops + 1 == ops + 1) = true := by simp
    go_enter Try.func37, Try.ntmps37
    go_wp2
    go_quiet (fail)
    go_wp2
    go_ret
    refine ⟨by simp [Dk.oper], DAt.did (nv := nv) (sv := sv) (lv := lv) (HD.out.turn ?_ ?_ rfl rfl rfl HK.out) (fun i hi => .inl (HO.out i hi)) ?_⟩
    · exact ((((Off.refl (fun i => i = p) w).setCell (p := ⟨p, 3, none⟩) (.inl rfl) _).drewN _).setCell (p := ⟨p, 5, none⟩) (.inl rfl) _)
    · have hb := ((HD.out.blk.put 3 (.int .i64 (ops + 1))).drewN nq).put 5 (.bool true)
      simpa [Dk.oper] using hb
    · exact ((((Off.refl O w).setCell (p := ⟨p, 3, none⟩) (.inl HP.out) _).drewN _).setCell (p := ⟨p, 5, none⟩) (.inl HP.out) _)
  · have t1 : (ops + 1 == fuse) = false := by simpa using hf
    clear hf
    go_enter Try.func37, Try.ntmps37
    go_wp2
    go_quiet (fail)
    go_wp2
    go_ret
    refine ⟨by simp [Dk.oper, t1], DAt.did (nv := nv) (sv := sv) (lv := lv) (HD.out.turn ?_ ?_ rfl rfl rfl HK.out) (fun i hi => .inl (HO.out i hi)) ?_⟩
    · exact (((Off.refl (fun i => i = p) w).setCell (p := ⟨p, 3, none⟩) (.inl rfl) _).drewN _)
    · have hb := (HD.out.blk.put 3 (.int .i64 (ops + 1))).drewN nq
      simpa [Dk.oper, t1] using hb
    · exact (((Off.refl O w).setCell (p := ⟨p, 3, none⟩) (.inl HP.out) _).drewN _)
set_option maxHeartbeats 800000 in
theorem sfuse_any (h : DiskIs B O w p s) (ho : s.ops < 4611686018427387904) (n : Int) (hn : -9223372036854775808 ≤ n ∧ n ≤ 9223372036854775807) :
    Calls Try.prog 21 #[.pointer (some ⟨p, 0, none⟩), .int .i64 n] w fun en w' => en = .returned (.tuple #[]) ∧ Did B O w p (s.fused n) w' := by
  obtain ⟨nv, sv, lv, hd, hO⟩ := h
  have h0 := hd.ok.ops0
  have k3 := hd.blk.cell 3
  have k4 := hd.blk.cell 4
  have k5 := hd.blk.cell 5
  have f4 := hd.blk.free 4
  have f5 := hd.blk.free 5
  simp only [List.getElem?_cons_zero, List.getElem?_cons_succ] at k3 k4 k5
  have HD := Lib.hid hd
  have HO := Lib.hid hO
  have HP := Lib.hid (hO p (.inl rfl))
  have HK := Lib.hid (Dk.fused_ok hd.ok n)
  obtain ⟨hn1, hn2⟩ := hn
  clear hd hO
  obtain ⟨now, sure, log, ops, fuse, down⟩ := s
  simp only at ho h0 k3 k4 k5
  by_cases h1 : 0 < n
  · have t1 : decide (0 < n) = true := by simp; omega
    by_cases h2 : n ≤ 4611686018427387904 - ops
    · have t2 : decide (n ≤ 4611686018427387904 - ops) = true := by simp; omega
      go_enter Try.func21, Try.ntmps21
      go_wp2
      go_end0
      refine ⟨rfl, DAt.did (nv := nv) (sv := sv) (lv := lv) (HD.out.turn ?_ ?_ rfl rfl rfl HK.out) (fun i hi => .inl (HO.out i hi)) ?_⟩
      · exact ((((Off.refl (fun i => i = p) w).setCell (p := ⟨p, 5, none⟩) (.inl rfl) _).setCell (p := ⟨p, 4, none⟩) (.inl rfl) _).setCell (p := ⟨p, 4, none⟩) (.inl rfl) _)
      · have hb := ((HD.out.blk.put 5 (.bool false)).put 4 (.int .i64 0)).put 4 (.int .i64 (ops + n))
        simpa [Dk.fused, h1, h2] using hb
      · exact ((((Off.refl O w).setCell (p := ⟨p, 5, none⟩) (.inl HP.out) _).setCell (p := ⟨p, 4, none⟩) (.inl HP.out) _).setCell (p := ⟨p, 4, none⟩) (.inl HP.out) _)
    · have t2 : decide (n ≤ 4611686018427387904 - ops) = false := by simp; omega
      have HF : Hid ((if 0 < n ∧ n ≤ 4611686018427387904 - ops then ops + n else 0) = 0) := Lib.hid (if_neg (by omega))
      go_enter Try.func21, Try.ntmps21
      go_wp2
      go_end0
      refine ⟨rfl, DAt.did (nv := nv) (sv := sv) (lv := lv) (HD.out.turn ?_ ?_ rfl rfl rfl HK.out) (fun i hi => .inl (HO.out i hi)) ?_⟩
      · exact (((Off.refl (fun i => i = p) w).setCell (p := ⟨p, 5, none⟩) (.inl rfl) _).setCell (p := ⟨p, 4, none⟩) (.inl rfl) _)
      · have hb := (HD.out.blk.put 5 (.bool false)).put 4 (.int .i64 0)
        unfold Dk.fused
        simp only [HF.out]
        simpa using hb
      · exact (((Off.refl O w).setCell (p := ⟨p, 5, none⟩) (.inl HP.out) _).setCell (p := ⟨p, 4, none⟩) (.inl HP.out) _)
  · have t1 : decide (0 < n) = false := by simp; omega
    have HF : Hid ((if 0 < n ∧ n ≤ 4611686018427387904 - ops then ops + n else 0) = 0) := Lib.hid (if_neg (by omega))
    go_enter Try.func21, Try.ntmps21
    go_wp2
    go_end0
    refine ⟨rfl, DAt.did (nv := nv) (sv := sv) (lv := lv) (HD.out.turn ?_ ?_ rfl rfl rfl HK.out) (fun i hi => .inl (HO.out i hi)) ?_⟩
    · exact (((Off.refl (fun i => i = p) w).setCell (p := ⟨p, 5, none⟩) (.inl rfl) _).setCell (p := ⟨p, 4, none⟩) (.inl rfl) _)
    · have hb := (HD.out.blk.put 5 (.bool false)).put 4 (.int .i64 0)
      unfold Dk.fused
      simp only [HF.out]
      simpa using hb
    · exact (((Off.refl O w).setCell (p := ⟨p, 5, none⟩) (.inl HP.out) _).setCell (p := ⟨p, 4, none⟩) (.inl HP.out) _)
end
end Go.Proofs.Ytjddplddpdcmdaa
