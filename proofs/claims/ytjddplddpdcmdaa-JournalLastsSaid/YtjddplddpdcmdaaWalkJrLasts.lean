/- The walk of JournalLasts. -/
import Derived.Test.YtjddplddpdcmdaaWalkJrCounts
import Derived.Test.YtjddplddpdcmdaaJrLaw4P
namespace Go.Proofs.Ytjddplddpdcmdaa
open Go.RowKit
set_option linter.unusedVariables false
set_option linter.unusedSimpArgs false

section
variable {w0 w W W' : World} {ds ds' : List (Nat × Dk)} {bs bs' : List (Nat × TypeId × List Value)} {rs rs' rs0 : List (Nat × Value × List Value)} {d q q2 g k n sz : Nat} {s s' : Dk} {j j' j2 : Jr} {v u lv : Value} {t : TypeId} {cs xs : List Value}
theorem jd_fuse (h : JD w0 W ds d s q j bs rs) (ho : s.ops < 1000000000) (n : Int) (hn : -9223372036854775808 ≤ n ∧ n ≤ 9223372036854775807) :
    Calls Try.prog 21 #[.pointer (some ⟨d, 0, none⟩), .int .i64 n] W fun en W' => en = .returned (.tuple #[]) ∧ JD w0 W' ds d (s.fused n) q j bs rs := by
  obtain ⟨lv, h1, h2, h3⟩ := h
  exact (dm_fuse h1 (by omega) n hn).mono fun en W' ⟨he, h⟩ => ⟨he, lv, h, h2, h3⟩
theorem JD.more (h : JD w0 W ds d s q j bs rs) (hb : Below W.heap.size W W') (hg : W.heap.size ≤ g) (hk : Blk W' g t cs) : JD w0 W' ds d s q j ((g, t, cs) :: bs) rs := by
  obtain ⟨lv, h1, h2, h3⟩ := h
  exact ⟨lv, (h1.more hb hg hk).permB (.swap _ _ _), h2, h3⟩
theorem JD.blk (h : JD w0 W ds d s q j bs rs) {b : Nat × TypeId × List Value} (hb : b ∈ bs) : Blk W b.1 b.2.1 b.2.2 := by
  obtain ⟨lv, h1, h2, h3⟩ := h
  exact h1.blk (.tail _ hb)
theorem JD.argReads (h : JD w0 W ds d s q j bs rs) {v : Value} {x : List UInt8} (ha : ArgM w0 bs rs v x) : Reads W W.heap.size v (bytesV x) := by
  obtain ⟨lv, h1, h2, h3⟩ := h
  exact h1.argReads (ha.mono (fun y hy => .tail _ hy) (fun y hy => hy))
theorem ArgM.moreR {v : Value} {x : List UInt8} (h : ArgM w0 [] rs v x) (hs : SubR rs rs') : ArgM w0 bs rs' v x := h.mono (fun y hy => by cases hy) hs
end
def hasJ (j : Jr) : Bool := decide (j.gen ≠ 0)
theorem hasJ_one {j : Jr} (h : j.gen ≠ 0) : hasJ j = true := by unfold hasJ; simpa using h
theorem hasJ_none {j : Jr} (h : j.gen = 0) : hasJ j = false := by unfold hasJ; simpa using h
theorem hasJ_eq {j k : Jr} (h : k.gen = j.gen) : hasJ k = hasJ j := by unfold hasJ; rw [h]
theorem jlast_has {w0 W : World} {ds : List (Nat × Dk)} {bs : List (Nat × TypeId × List Value)} {rs : List (Nat × Value × List Value)} {d q : Nat} {s : Dk} {j : Jr} (h : JD w0 W ds d s q j bs rs) : Calls Try.prog 16 #[.pointer (some ⟨q, 0, none⟩)] W fun en W' => ∃ A n c, en = .returned (.tuple #[.slice A n c, .bool (hasJ j)]) ∧ Below W.heap.size W W' ∧ ReadsIn 1 (fun i => W.heap.size ≤ i) W' (.slice A n c) (bytesV (lastJ j)) := jlast_any h
theorem and_bound (a b : Int) : ∃ y, bits .and .i64 a b = y ∧ (-9223372036854775808 ≤ y ∧ y ≤ 9223372036854775807) := by
  refine ⟨_, rfl, ?_⟩
  show -9223372036854775808 ≤ IntKind.i64.wrap _ ∧ IntKind.i64.wrap _ ≤ 9223372036854775807
  rw [IntKind.wrap_i64]
  omega
set_option maxHeartbeats 25600000 in
set_option maxRecDepth 100000 in
theorem journalLasts_walk (v0 : Value) (l : List Call6) (v1 : Value) (ps : List (Value × List UInt8)) (w : World) (o0 : Calls6Of w v0 l) (o1 : RowsOf w v1 ps) :
    Calls Try.prog 7 #[v0, v1] w fun en w' => en = .returned (.bool true) ∧ Below w.heap.size w w' := by
  obtain ⟨A0, c0, rfl⟩ := o0.form
  obtain ⟨A1, c1, rfl⟩ := o1.form
  have hlen := o0.len
  have hlen1 := o1.len
  have HL := Lib.hid o0
  have HP := Lib.hid o1
  clear o0 o1
  obtain ⟨s1, j1, hop, hjs, hup, hg0, hhf, hops, _⟩ := open_new 24 (by decide) (by decide)
  have HOP := Lib.hid hop
  have HJS := Lib.hid hjs
  have HG0 : Hid (j1.gen ≤ 0) := Lib.hid (by omega)
  have HHF : Hid (j1.half = 12) := Lib.hid hhf
  have HO1 : Hid (s1.ops ≤ 5000 * ((0 : Nat) : Int) + 1) := Lib.hid (by omega)
  have HDG : Hid (hasJ j1 = false) := Lib.hid (hasJ_none hg0)
  have HLL : Hid (lastJ j1 = []) := Lib.hid (by unfold lastJ; rw [if_pos hg0])
  clear hop hjs hup hg0 hhf hops
  go_enter Try.func7, Try.ntmps7
  go_wp2_with fail
  refine (dm_new (DM.start w) 24 24 (by decide)).mono ?_
  rintro en w1 ⟨d, rfl, h⟩
  have D1 := Lib.hid h
  clear h
  go_wp2_with fail
  refine (jopen_any D1.out (by decide)).mono ?_
  rw [HOP.out]
  rintro en w2 h
  rcases h with ⟨h, _⟩ | ⟨_, q, rs1, rfl, _, hj⟩
  · exact absurd rfl h
  have J1 := Lib.hid hj
  clear hj D1 HOP
  dsimp only
  have HSU : Hid (ArgM w [] rs1 (.slice none 0 0) (lastJ j1)) := Lib.hid (by rw [HLL.out]; exact .inl (Reads.nil_ _ _))
  have HBE : Hid (∀ b : List UInt8, (none : Option (List UInt8)) = some b → ArgM w [] rs1 (.slice none 0 0) b) := Lib.hid (fun b hb => by cases hb)
  go_wp2
  go_loopw [35, 6, 8, 9, 10, 11] (fun i jv sv bv hv wv wr => ∃ (k q : Nat) (j : Jr) (s : Dk) (bg : Option (List UInt8)) (rs : List (Nat × Value × List Value)) (As : Option Addr) (ns cs : Nat) (Ag : Option Addr) (ng cg : Nat), k ≤ l.length ∧ k ≤ 25 ∧ i = .int .i64 k ∧ jv = .pointer (some ⟨q, 0, none⟩) ∧ sv = .slice As ns cs ∧ bv = .slice Ag ng cg ∧ hv = .bool (hasJ j) ∧ wv = .bool bg.isSome ∧ Hid (JS j s bg) ∧ Hid (j.half = 12) ∧ Hid (j.gen ≤ k) ∧ Hid (s.ops ≤ 5000 * (k : Int) + 1) ∧ Hid (JD w wr [] d s q j [] rs) ∧ Hid (ArgM w [] rs (.slice As ns cs) (lastJ j)) ∧ Hid (∀ b, bg = some b → ArgM w [] rs (.slice Ag ng cg) b)) (fun i _ _ _ _ _ _ => l.length - (intOf i).toNat)
  case atStart => exact ⟨0, q, j1, s1, none, rs1, none, 0, 0, none, 0, 0, by omega, by omega, rfl, rfl, rfl, rfl, by rw [HDG.out], rfl, HJS, HHF, HG0, HO1, J1, HSU, HBE⟩
  case round =>
    obtain ⟨k, q, j, s, bg, rs, As, ns, cs, Ag, ng, cg, hk, hk2, rfl, rfl, rfl, rfl, rfl, rfl, hjs, hhf, hgn, hops, hjd, hsu, hbe⟩ := hrel
    clear J1 HJS HG0 HHF HO1 HSU HBE HDG HLL
    by_cases hlt : k < l.length
    · obtain ⟨g, o, c, e, e1, hlk, hok, hg, q0, q1, q2⟩ := HL.out.at_ hlt
      injection e1 with e1 _ e3
      subst e1 e3
      have hbel := hjd.out.bel
      have r0 := (hbel.cell (p := ⟨g, o + k * 3, none⟩) hg).trans q0
      have r1 := (hbel.cell (p := ⟨g, o + k * 3 + 1, none⟩) hg).trans q1
      have r2 := (hbel.cell (p := ⟨g, o + k * 3 + 2, none⟩) hg).trans q2
      have hgr : g < wr.heap.size := by have := hbel.size; omega
      obtain ⟨dd, nn, bv, raw⟩ := e
      obtain ⟨_, hnn, hraw, hrl⟩ := hok
      simp only at r0 r1 r2 hnn hraw hrl
      obtain ⟨Ab, cb, rfl, _, _⟩ := hraw.form
      rw [length_bytesV] at hraw r2
      have HRAW : Hid (∀ bs rs, ArgM w bs rs (.slice Ab raw.length cb) raw) := Lib.hid (fun _ _ => .inl hraw)
      have D2 := Lib.hid (hjd.out.more (g := wr.heap.size) (t := 48) (cs := [.int .i64 dd, .int .i64 nn, .slice Ab raw.length cb]) ((Below.refl _ wr).alloc (Nat.le_refl _) (.cells #[.int .i64 dd, .int .i64 nn, .slice Ab raw.length cb] 48)) (Nat.le_refl _) (Blk.fresh wr _ _))
      have i0 : (0 : Int) ≤ (k : Int) := by omega
      have i1 : (k : Int) < (l.length : Int) := by omega
      clear hbel q0 q1 q2 hlk hraw hjd
      by_cases h25 : 25 ≤ k
      · have t25 : decide ((25 : Int) ≤ (k : Int)) = true := by simp; omega
        have JX := D2
        clear D2
        go_wp2_with fail
        refine (awake6_any _).mono ?_
        rintro en w9 ⟨rfl, hb⟩
        have J9 := Lib.hid (JX.out.below hb)
        clear hb
        go_wp2
        go_ret
        exact ⟨rfl, J9.out.bel⟩
      · have t25 : decide ((25 : Int) ≤ (k : Int)) = false := by simp; omega
        by_cases h600 : 600 < raw.length
        · have t6 : decide ((600 : Int) < (raw.length : Int)) = true := by simp; omega
          have t6n : decide (600 < raw.length) = true := by simp; omega
          have JX := D2
          clear D2 h600
          go_wp2_with fail
          refine (awake6_any _).mono ?_
          rintro en w9 ⟨rfl, hb⟩
          have J9 := Lib.hid (JX.out.below hb)
          clear hb
          go_wp2
          go_ret
          exact ⟨rfl, J9.out.bel⟩
        · have t6 : decide ((600 : Int) < (raw.length : Int)) = false := by simp; omega
          have t6n : decide (600 < raw.length) = false := by simp; omega
          have HRL : Hid (raw.length ≤ 600) := Lib.hid (by omega)
          have HOB : Hid (s.ops < 900000000) := Lib.hid (by have := hops.out; omega)
          clear h600
          by_cases h0 : dd = 0
          · subst h0
            cases bg with
            | some b0 =>
              have HC := Lib.hid (commit_no hjs.out raw)
              go_wp2_with fail
              refine (jcommit_any D2.out HOB.out _ raw (HRAW.out _ _) (by have := HRL.out; omega)).mono ?_
              rw [HC.out]
              rintro en w5 ⟨rfl, rs5, hsub, hj⟩
              have J5 := Lib.hid hj.dropB
              have HS5 := Lib.hid hsub
              clear hj hsub D2 HC
              go_wp2
              go_roundw
              case rel => exact ⟨k + 1, q, j, s, some b0, rs5, As, ns, cs, Ag, ng, cg, by omega, by omega, by go_num, rfl, rfl, rfl, rfl, rfl, hjs, hhf, Lib.hid (by have := hgn.out; omega), Lib.hid (by have := hops.out; omega), J5, Lib.hid (hsu.out.moreR HS5.out), Lib.hid (fun b hb => (hbe.out b hb).moreR HS5.out)⟩
              case measure => simp [intOf]; omega
            | none =>
              obtain ⟨jn, sn, e, hce, hends, _, hcl, hco⟩ := commit_law hjs.out (b := raw) (by unfold roomJ; rw [hhf.out]; have := HRL.out; omega) (by have := hgn.out; omega)
              have HC := Lib.hid hce
              have HOS : Hid (sn.ops ≤ 5000 * ((k + 1 : Nat) : Int) + 1) := Lib.hid (by have := hops.out; omega)
              clear hce hcl hco
              obtain ⟨rfl, hjn, hjs2⟩ | ⟨rfl, hjn, hjs2⟩ := hends
              · have HJS2 := Lib.hid hjs2
                have HH2 : Hid (jn.half = 12) := Lib.hid (by rw [hjn]; exact hhf.out)
                have HG2 : Hid (jn.gen ≤ k + 1) := Lib.hid (by rw [hjn]; simp only; have := hgn.out; omega)
                have HL2 : Hid (lastJ jn = raw) := Lib.hid (by rw [hjn]; unfold lastJ; simp only; rw [if_neg (by omega)])
                have HD2 : Hid (true = hasJ jn) := Lib.hid (hasJ_one (by rw [hjn]; simp)).symm
                clear hjn hjs2
                go_wp2_with fail
                refine (jcommit_any D2.out HOB.out _ raw (HRAW.out _ _) (by have := HRL.out; omega)).mono ?_
                rw [HC.out]
                rintro en w5 ⟨rfl, rs5, hsub, hj⟩
                have hkq := hj.blk (.head _)
                have m2 := hkq.cell 2
                have hql := hkq.lt
                simp only [List.getElem?_cons_zero, List.getElem?_cons_succ] at m2 hql
                have J5 := Lib.hid hj.dropB
                have HS5 := Lib.hid hsub
                clear hj hsub D2 HC hkq
                go_wp2
                go_roundw
                case rel => exact ⟨k + 1, q, jn, sn, none, rs5, Ab, raw.length, cb, Ag, ng, cg, by omega, by omega, by go_num, rfl, rfl, rfl, by rw [← HD2.out], rfl, HJS2, HH2, HG2, HOS, J5, Lib.hid (by rw [HL2.out]; exact HRAW.out _ _), Lib.hid (fun b hb => by cases hb)⟩
                case measure => simp [intOf]; omega
              · have HJS2 := Lib.hid hjs2
                have HH2 : Hid (jn.half = 12) := Lib.hid (by rw [hjn]; exact hhf.out)
                have HG2 : Hid (jn.gen ≤ k + 1) := Lib.hid (by rw [hjn]; simp only; have := hgn.out; omega)
                have HL2 : Hid (lastJ jn = lastJ j) := Lib.hid (by rw [hjn]; rfl)
                have HD2 : Hid (hasJ j = hasJ jn) := Lib.hid (hasJ_eq (by rw [hjn])).symm
                clear hjn hjs2
                go_wp2_with fail
                refine (jcommit_any D2.out HOB.out _ raw (HRAW.out _ _) (by have := HRL.out; omega)).mono ?_
                rw [HC.out]
                rintro en w5 ⟨rfl, rs5, hsub, hj⟩
                have hkq := hj.blk (.head _)
                have m2 := hkq.cell 2
                have hql := hkq.lt
                simp only [List.getElem?_cons_zero, List.getElem?_cons_succ] at m2 hql
                have J5 := Lib.hid hj.dropB
                have HS5 := Lib.hid hsub
                clear hj hsub D2 HC hkq
                go_wp2
                go_roundw
                case rel => exact ⟨k + 1, q, jn, sn, some raw, rs5, As, ns, cs, Ab, raw.length, cb, by omega, by omega, by go_num, rfl, rfl, rfl, by rw [HD2.out], rfl, HJS2, HH2, HG2, HOS, J5, Lib.hid (by rw [HL2.out]; exact hsu.out.moreR HS5.out), Lib.hid (fun b hb => by injection hb with hb; subst hb; exact HRAW.out _ _)⟩
                case measure => simp [intOf]; omega
          · have t0 : (dd == 0) = false := beq_eq_false_iff_ne.2 h0
            by_cases h1 : dd = 1
            · subst h1
              obtain ⟨y, hy, hyb⟩ := and_bound nn 31
              have HY := Lib.hid hyb
              clear hyb
              go_wp2_with fail
              refine (jd_fuse D2.out (by have := HOB.out; omega) y HY.out).mono ?_
              rintro en w5 ⟨rfl, hj⟩
              have J5 := Lib.hid hj.dropB
              have HJS2 := Lib.hid (hjs.out.fused y)
              have HOS : Hid ((s.fused y).ops ≤ 5000 * ((k + 1 : Nat) : Int) + 1) := Lib.hid (by show s.ops ≤ _; have := hops.out; omega)
              clear hj D2
              go_wp2
              go_roundw
              case rel => exact ⟨k + 1, q, j, s.fused y, bg, rs, As, ns, cs, Ag, ng, cg, by omega, by omega, by go_num, rfl, rfl, rfl, rfl, rfl, HJS2, hhf, Lib.hid (by have := hgn.out; omega), HOS, J5, hsu, hbe⟩
              case measure => simp [intOf]; omega
            · have t1 : (dd == 1) = false := beq_eq_false_iff_ne.2 h1
              clear h0 h1
              by_cases hpk : k < ps.length
              · have u1 : decide ((k : Int) < (ps.length : Int)) = true := by simp; omega
                have i2 : (k : Int) < (ps.length : Int) := by omega
                obtain ⟨gp, op, cp, e, e1, _, hpok, hgp, p0⟩ := HP.out.at_ hpk
                injection e1 with e1 _ e3
                subst e1 e3
                have rp := (D2.out.bel.cell (p := ⟨gp, op + k, none⟩) hgp).trans p0
                have hgpr : gp < (wr.alloc (.cells #[.int .i64 dd, .int .i64 nn, .slice Ab raw.length cb] 48)).heap.size := by have := D2.out.bel.size; omega
                obtain ⟨pv, pk⟩ := e
                simp only at hpok rp
                obtain ⟨Ap, cpp, rfl, _, _⟩ := hpok.1.form
                rw [length_bytesV] at hpok rp
                have HPA : Hid (∀ bs rs, ArgM w bs rs (.slice Ap pk.length cpp) pk) := Lib.hid (fun _ _ => .inl hpok.1)
                clear p0 hpok
                obtain ⟨sn, jk, hoe, hjs3, hup3, hfd, hso⟩ := crash_any hjs.out pk
                have HOE := Lib.hid hoe
                have HJS3 := Lib.hid hjs3
                have HH3 : Hid (jk.half = 12) := Lib.hid (by rw [hfd.1]; exact hhf.out)
                have HG3 : Hid (jk.gen ≤ k + 1) := Lib.hid (by
                  have := hgn.out
                  rcases hfd.2.2 with ⟨_, h, _⟩ | ⟨_, _, _, h, _⟩ <;> omega)
                have HOS : Hid (sn.ops ≤ 5000 * ((k + 1 : Nat) : Int) + 1) := Lib.hid (by have := hops.out; omega)
                have HCO : Hid ((s.crash pk).ops < 1000000000) := Lib.hid (by show s.ops < _; have := HOB.out; omega)
                have HFD := Lib.hid hfd
                clear hoe hjs3 hup3 hfd hso
                go_wp2_with fail
                refine (jd_crash D2.out (.slice Ap pk.length cpp) pk (HPA.out _ _)).mono ?_
                rintro en w5 ⟨rfl, hj⟩
                have J5 := Lib.hid hj.dropB.dm
                clear hj D2
                go_wp2_with fail
                refine (jopen_any J5.out HCO.out).mono ?_
                rw [HOE.out]
                rintro en w6 h
                rcases h with ⟨h, _⟩ | ⟨_, q6, rs6, rfl, hsub, hj⟩
                · exact absurd rfl h
                have J6 := Lib.hid hj
                have HS6 : Hid (SubR rs rs6) := Lib.hid hsub
                clear hj hsub J5
                dsimp only
                go_wp2_with fail
                refine (jlast_has J6.out).mono ?_
                rintro en w7 ⟨A7, n7, c7, rfl, hb7, hr7⟩
                have J7 := Lib.hid (J6.out.read hb7 hr7)
                have s7 := run_strJ hr7.reads
                have sS := run_strJ (J7.out.argReads (hsu.out.moreR (bs := []) (rs' := (1, .slice A7 n7 c7, bytesV (lastJ jk)) :: rs6) (fun x hx => .tail _ (HS6.out x hx))))
                clear hb7 hr7 J6
                dsimp only
                obtain ⟨_, _, hfc⟩ := HFD.out
                rcases hfc with ⟨_, hfg, hfl⟩ | ⟨b0, hbg, _, hfg, hfl⟩
                · have el : lastJ jk = lastJ j := by unfold lastJ; rw [hfg, hfl]
                  have eg : hasJ jk = hasJ j := hasJ_eq hfg
                  have HEL := Lib.hid el
                  have HEG := Lib.hid eg
                  rw [el] at s7
                  rw [eg]
                  generalize hasJ j = hasb at HEG ⊢
                  have tbb : (hasb == hasb) = true := by simp
                  generalize lastJ j = lj at s7 sS HEL
                  have tyy : (lj == lj) = true := by simp
                  clear el eg hfg hfl
                  go_wp2
                  go_roundw
                  case rel => exact ⟨k + 1, q6, jk, sn, none, _, A7, n7, c7, Ag, ng, cg, by omega, by omega, by go_num, rfl, rfl, rfl, by rw [HEG.out], rfl, HJS3, HH3, HG3, HOS, J7, Lib.hid (.inr (.inr (.head _))), Lib.hid (fun b hb => by cases hb)⟩
                  case measure => simp [intOf]; omega
                · have el : lastJ jk = b0 := by unfold lastJ; rw [if_neg (by omega), hfl]
                  have eg : hasJ jk = true := hasJ_one (by omega)
                  have HEL := Lib.hid el
                  have HEG := Lib.hid eg
                  rw [el] at s7
                  rw [eg]
                  subst hbg
                  have sG := run_strJ (J7.out.argReads ((hbe.out b0 rfl).moreR (bs := []) (rs' := (1, .slice A7 n7 c7, bytesV (lastJ jk)) :: rs6) (fun x hx => .tail _ (HS6.out x hx))))
                  have hsome : (some b0 : Option (List UInt8)).isSome = true := rfl
                  have tbb : (b0 == b0) = true := by simp
                  generalize hhas : hasJ j = hasb
                  obtain ⟨eqb, heqb⟩ : ∃ x, (b0 == lastJ j) = x := ⟨_, rfl⟩
                  clear el eg hfg hfl hhas
                  cases hasb with
                  | true =>
                    cases eqb with
                    | true =>
                      go_wp2
                      go_roundw
                      case rel => exact ⟨k + 1, q6, jk, sn, none, _, A7, n7, c7, Ag, ng, cg, by omega, by omega, by go_num, rfl, rfl, rfl, by rw [HEG.out], rfl, HJS3, HH3, HG3, HOS, J7, Lib.hid (.inr (.inr (.head _))), Lib.hid (fun b hb => by cases hb)⟩
                      case measure => simp [intOf]; omega
                    | false =>
                      go_wp2
                      go_roundw
                      case rel => exact ⟨k + 1, q6, jk, sn, none, _, A7, n7, c7, Ag, ng, cg, by omega, by omega, by go_num, rfl, rfl, rfl, by rw [HEG.out], rfl, HJS3, HH3, HG3, HOS, J7, Lib.hid (.inr (.inr (.head _))), Lib.hid (fun b hb => by cases hb)⟩
                      case measure => simp [intOf]; omega
                  | false =>
                    go_wp2
                    go_roundw
                    case rel => exact ⟨k + 1, q6, jk, sn, none, _, A7, n7, c7, Ag, ng, cg, by omega, by omega, by go_num, rfl, rfl, rfl, by rw [HEG.out], rfl, HJS3, HH3, HG3, HOS, J7, Lib.hid (.inr (.inr (.head _))), Lib.hid (fun b hb => by cases hb)⟩
                    case measure => simp [intOf]; omega
              · have u1 : decide ((k : Int) < (ps.length : Int)) = false := by simp; omega
                have i2 : ¬ (k : Int) < (ps.length : Int) := by omega
                have HPA : Hid (∀ bs rs, ArgM w bs rs (.slice none 0 0) []) := Lib.hid (fun _ _ => .inl (Reads.nil_ _ _))
                obtain ⟨pk, hpk0⟩ : ∃ p : List UInt8, p = [] := ⟨_, rfl⟩
                obtain ⟨sn, jk, hoe, hjs3, hup3, hfd, hso⟩ := crash_any hjs.out pk
                subst hpk0
                have HOE := Lib.hid hoe
                have HJS3 := Lib.hid hjs3
                have HH3 : Hid (jk.half = 12) := Lib.hid (by rw [hfd.1]; exact hhf.out)
                have HG3 : Hid (jk.gen ≤ k + 1) := Lib.hid (by
                  have := hgn.out
                  rcases hfd.2.2 with ⟨_, h, _⟩ | ⟨_, _, _, h, _⟩ <;> omega)
                have HOS : Hid (sn.ops ≤ 5000 * ((k + 1 : Nat) : Int) + 1) := Lib.hid (by have := hops.out; omega)
                have HCO : Hid ((s.crash []).ops < 1000000000) := Lib.hid (by show s.ops < _; have := HOB.out; omega)
                have HFD := Lib.hid hfd
                clear hoe hjs3 hup3 hfd hso
                go_wp2_with fail
                refine (jd_crash D2.out (.slice none 0 0) [] (HPA.out _ _)).mono ?_
                rintro en w5 ⟨rfl, hj⟩
                have J5 := Lib.hid hj.dropB.dm
                clear hj D2
                go_wp2_with fail
                refine (jopen_any J5.out HCO.out).mono ?_
                rw [HOE.out]
                rintro en w6 h
                rcases h with ⟨h, _⟩ | ⟨_, q6, rs6, rfl, hsub, hj⟩
                · exact absurd rfl h
                have J6 := Lib.hid hj
                have HS6 : Hid (SubR rs rs6) := Lib.hid hsub
                clear hj hsub J5
                dsimp only
                go_wp2_with fail
                refine (jlast_has J6.out).mono ?_
                rintro en w7 ⟨A7, n7, c7, rfl, hb7, hr7⟩
                have J7 := Lib.hid (J6.out.read hb7 hr7)
                have s7 := run_strJ hr7.reads
                have sS := run_strJ (J7.out.argReads (hsu.out.moreR (bs := []) (rs' := (1, .slice A7 n7 c7, bytesV (lastJ jk)) :: rs6) (fun x hx => .tail _ (HS6.out x hx))))
                clear hb7 hr7 J6
                dsimp only
                obtain ⟨_, _, hfc⟩ := HFD.out
                rcases hfc with ⟨_, hfg, hfl⟩ | ⟨b0, hbg, _, hfg, hfl⟩
                · have el : lastJ jk = lastJ j := by unfold lastJ; rw [hfg, hfl]
                  have eg : hasJ jk = hasJ j := hasJ_eq hfg
                  have HEL := Lib.hid el
                  have HEG := Lib.hid eg
                  rw [el] at s7
                  rw [eg]
                  generalize hasJ j = hasb at HEG ⊢
                  have tbb : (hasb == hasb) = true := by simp
                  generalize lastJ j = lj at s7 sS HEL
                  have tyy : (lj == lj) = true := by simp
                  clear el eg hfg hfl
                  go_wp2
                  go_roundw
                  case rel => exact ⟨k + 1, q6, jk, sn, none, _, A7, n7, c7, Ag, ng, cg, by omega, by omega, by go_num, rfl, rfl, rfl, by rw [HEG.out], rfl, HJS3, HH3, HG3, HOS, J7, Lib.hid (.inr (.inr (.head _))), Lib.hid (fun b hb => by cases hb)⟩
                  case measure => simp [intOf]; omega
                · have el : lastJ jk = b0 := by unfold lastJ; rw [if_neg (by omega), hfl]
                  have eg : hasJ jk = true := hasJ_one (by omega)
                  have HEL := Lib.hid el
                  have HEG := Lib.hid eg
                  rw [el] at s7
                  rw [eg]
                  subst hbg
                  have sG := run_strJ (J7.out.argReads ((hbe.out b0 rfl).moreR (bs := []) (rs' := (1, .slice A7 n7 c7, bytesV (lastJ jk)) :: rs6) (fun x hx => .tail _ (HS6.out x hx))))
                  have hsome : (some b0 : Option (List UInt8)).isSome = true := rfl
                  have tbb : (b0 == b0) = true := by simp
                  generalize hhas : hasJ j = hasb
                  obtain ⟨eqb, heqb⟩ : ∃ x, (b0 == lastJ j) = x := ⟨_, rfl⟩
                  clear el eg hfg hfl hhas
                  cases hasb with
                  | true =>
                    cases eqb with
                    | true =>
                      go_wp2
                      go_roundw
                      case rel => exact ⟨k + 1, q6, jk, sn, none, _, A7, n7, c7, Ag, ng, cg, by omega, by omega, by go_num, rfl, rfl, rfl, by rw [HEG.out], rfl, HJS3, HH3, HG3, HOS, J7, Lib.hid (.inr (.inr (.head _))), Lib.hid (fun b hb => by cases hb)⟩
                      case measure => simp [intOf]; omega
                    | false =>
                      go_wp2
                      go_roundw
                      case rel => exact ⟨k + 1, q6, jk, sn, none, _, A7, n7, c7, Ag, ng, cg, by omega, by omega, by go_num, rfl, rfl, rfl, by rw [HEG.out], rfl, HJS3, HH3, HG3, HOS, J7, Lib.hid (.inr (.inr (.head _))), Lib.hid (fun b hb => by cases hb)⟩
                      case measure => simp [intOf]; omega
                  | false =>
                    go_wp2
                    go_roundw
                    case rel => exact ⟨k + 1, q6, jk, sn, none, _, A7, n7, c7, Ag, ng, cg, by omega, by omega, by go_num, rfl, rfl, rfl, by rw [HEG.out], rfl, HJS3, HH3, HG3, HOS, J7, Lib.hid (.inr (.inr (.head _))), Lib.hid (fun b hb => by cases hb)⟩
                    case measure => simp [intOf]; omega
    · have JX := hjd
      go_wp2_with fail
      refine (awake6_any _).mono ?_
      rintro en w9 ⟨rfl, hb⟩
      have J9 := Lib.hid (JX.out.below hb)
      clear hb
      go_wp2
      go_ret
      exact ⟨rfl, J9.out.bel⟩
end Go.Proofs.Ytjddplddpdcmdaa
