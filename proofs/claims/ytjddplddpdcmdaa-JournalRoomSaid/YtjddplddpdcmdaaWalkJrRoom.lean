/- The walk of JournalRoom. -/
import Derived.Test.YtjddplddpdcmdaaWalkJrCounts
namespace Go.Proofs.Ytjddplddpdcmdaa
open Go.RowKit
set_option linter.unusedVariables false
set_option linter.unusedSimpArgs false

theorem conv_mod40 (a : Int) : ∃ k : Nat, wrap64 (4 + wrap64 ((IntKind.u64.wrap a).tmod 40)) = k ∧ 4 ≤ k ∧ k ≤ 43 := by
  have hu : 0 ≤ IntKind.u64.wrap a := by rw [IntKind.wrap_u64]; omega
  have ht : (IntKind.u64.wrap a).tmod 40 = (IntKind.u64.wrap a) % 40 := Int.tmod_eq_emod_of_nonneg hu
  have h2 := Int.emod_nonneg (IntKind.u64.wrap a) (show (40 : Int) ≠ 0 by omega)
  have h3 := Int.emod_lt_of_pos (IntKind.u64.wrap a) (show (0 : Int) < 40 by omega)
  rw [ht]
  generalize (IntKind.u64.wrap a) % 40 = x at h2 h3
  refine ⟨(4 + x).toNat, ?_, by omega, by omega⟩
  unfold wrap64
  omega
theorem conv_mod1500 (a : Int) : ∃ k : Nat, wrap64 ((IntKind.u64.wrap a).tmod 1500) = k ∧ k < 1500 := by
  have hu : 0 ≤ IntKind.u64.wrap a := by rw [IntKind.wrap_u64]; omega
  have ht : (IntKind.u64.wrap a).tmod 1500 = (IntKind.u64.wrap a) % 1500 := Int.tmod_eq_emod_of_nonneg hu
  have h2 := Int.emod_nonneg (IntKind.u64.wrap a) (show (1500 : Int) ≠ 0 by omega)
  have h3 := Int.emod_lt_of_pos (IntKind.u64.wrap a) (show (0 : Int) < 1500 by omega)
  rw [ht]
  generalize (IntKind.u64.wrap a) % 1500 = x at h2 h3
  refine ⟨x.toNat, ?_, by omega⟩
  unfold wrap64
  omega
theorem wrap_small {x : Int} (h : 0 ≤ x) (h2 : x ≤ 1000000) : wrap64 x = x := by unfold wrap64; omega
theorem room_facts {n : Nat} (h4 : 4 ≤ n) (h43 : n ≤ 43) : ∃ nh nq room : Nat, n / 2 = nh ∧ (nh - 1) * 64 = room ∧ (room ≤ 1280 ∧ 64 ≤ room) ∧ ((n : Int).tdiv 2 = (nh : Int) ∧ wrap64 (nh : Int) = (nh : Int) ∧ (nh : Int) ≤ 21 ∧ 2 ≤ (nh : Int)) ∧ ((nh : Int) - 1) * 64 = (room : Int) ∧
    ((n : Int).tmod 2 = (nq : Int) ∧ wrap64 (nq : Int) = (nq : Int) ∧ (nq : Int) ≤ 1 ∧ 0 ≤ (nq : Int)) ∧ ∀ sz : Nat, sz < 1500 → (room < sz → (n : Int) - (nq : Int) < sectorsJ (sz : Int)) ∧ (sz ≤ room → sectorsJ (sz : Int) ≤ (n : Int)) ∧ (0 ≤ sectorsJ (sz : Int) ∧ sectorsJ (sz : Int) ≤ 100) := by
  obtain ⟨nh, nq, hn, hq⟩ : ∃ nh nq : Nat, n = 2 * nh + nq ∧ nq ≤ 1 := ⟨n / 2, n % 2, by omega, by omega⟩
  have a1 : n / 2 = nh := by omega
  have a2 : (n : Int).tdiv 2 = (nh : Int) := by rw [Int.tdiv_eq_ediv_of_nonneg (by omega)]; omega
  have a3 : (n : Int).tmod 2 = (nq : Int) := by rw [Int.tmod_eq_emod_of_nonneg (by omega)]; omega
  refine ⟨nh, nq, (nh - 1) * 64, a1, rfl, ⟨by omega, by omega⟩, ⟨a2, wrap_small (by omega) (by omega), by omega, by omega⟩, by omega, ⟨a3, wrap_small (by omega) (by omega), by omega, by omega⟩, fun sz hz => ?_⟩
  clear a1 a2 a3
  unfold sectorsJ
  rw [if_neg (by omega)]
  refine ⟨fun h => by omega, fun h => by omega, by omega, by omega⟩
section
variable {w0 w W W' : World} {ds ds' : List (Nat × Dk)} {bs bs' : List (Nat × TypeId × List Value)} {rs rs' rs0 : List (Nat × Value × List Value)} {d q g k n : Nat} {s s' : Dk} {j j' : Jr} {v : Value} {t : TypeId} {cs cs' : List Value}
theorem JD.more (h : JD w0 W ds d s q j bs rs) (hb : Below W.heap.size W W') (hg : W.heap.size ≤ g) (hk : Blk W' g t cs) : JD w0 W' ds d s q j ((g, t, cs) :: bs) rs := by
  obtain ⟨lv, h1, h2, h3⟩ := h
  exact ⟨lv, (h1.more hb hg hk).permB (.swap _ _ _), h2, h3⟩
theorem JD.blk (h : JD w0 W ds d s q j bs rs) {b : Nat × TypeId × List Value} (hb : b ∈ bs) : Blk W b.1 b.2.1 b.2.2 := by
  obtain ⟨lv, h1, h2, h3⟩ := h
  exact h1.blk (.tail _ hb)
theorem JD.argReads0 (h : JD w0 W ds d s q j bs rs) {v : Value} {x : List UInt8} (ha : ArgM w0 bs rs v x) : Reads W W.heap.size v (bytesV x) := by
  obtain ⟨lv, h1, h2, h3⟩ := h
  exact h1.argReads (ha.mono (fun y hy => .tail _ hy) (fun y hy => hy))
theorem JD.turn (h : JD w0 W ds d s q j ((g, t, cs) :: bs) rs) (ho : Off (fun i => i = g) W W') (hk : Blk W' g t cs') : JD w0 W' ds d s q j ((g, t, cs') :: bs) rs := by
  obtain ⟨lv, h1, h2, h3⟩ := h
  exact ⟨lv, ((h1.permB (.swap _ _ _)).turn ho hk).permB (.swap _ _ _), h2, h3⟩
end
theorem byte_of {a : Int} (wa : (Lit.int .u8 a).wf = true) : ∃ b : UInt8, a = (b.toNat : Int) := by
  have h : 0 ≤ a ∧ a < 256 := by
    simp only [Lit.wf, IntKind.min, IntKind.max, IntKind.signed, IntKind.bits, Bool.and_eq_true] at wa
    simp at wa
    omega
  refine ⟨UInt8.ofNat a.toNat, ?_⟩
  rw [UInt8.toNat_ofNat']
  omega
set_option maxHeartbeats 12800000 in
set_option maxRecDepth 100000 in
theorem journalRoom_walk (a0 : Int) (a1 : Int) (a2 : Int) (w0 : (Lit.int .i64 a0).wf = true) (w1 : (Lit.int .i64 a1).wf = true) (w2 : (Lit.int .u8 a2).wf = true) (w : World) :
    Calls Try.prog 6 #[.int .i64 a0, .int .i64 a1, .int .u8 a2] w fun en w' => en = .returned (.bool true) ∧ Below w.heap.size w w' := by
  obtain ⟨x, rfl⟩ := byte_of w2
  clear w0 w1 w2
  obtain ⟨n, hn, hn4, hn43⟩ := conv_mod40 a0
  obtain ⟨sz, hz, hz15⟩ := conv_mod1500 a1
  have HNE := Lib.hid hn
  have HZE := Lib.hid hz
  clear hn hz
  obtain ⟨nh, nq, room, hnh, hroom, hrb, hE1, hE2, hE3, hS⟩ := room_facts hn4 hn43
  have HE1 := Lib.hid hE1
  have HE2 := Lib.hid hE2
  have HE3 := Lib.hid hE3
  have HRB := Lib.hid hrb
  obtain ⟨hs1, hs2, hs3⟩ := hS sz hz15
  have HBIG := Lib.hid hs1
  have HSM := Lib.hid hs2
  have hsj0 := Lib.hid hs3
  clear hS hs1 hs2 hs3 hE1 hE2 hE3
  obtain ⟨s1, j1, hop, hjs, hup, hg0, hhf, hops, hsl1⟩ := open_new n hn4 (by omega)
  rw [hnh] at hhf
  have hr1 : roomJ j1 = room := by unfold roomJ; rw [hhf, hroom]
  obtain ⟨j2, s2, e2, hc2, hends2, hcu2, _, hco2⟩ := commit_law hjs (b := [97]) (by rw [hr1]; simp; omega) (by omega)
  obtain ⟨rfl, hu2⟩ := hcu2 hup
  rcases hends2 with ⟨_, hj2, hjs2⟩ | ⟨h9, _⟩
  case inr => exact absurd h9 (by decide)
  have hg2 : j2.gen = 1 := by rw [hj2]; simp only; omega
  have hh2 : j2.half = nh := by rw [hj2]; exact hhf
  have hl2' : lastJ j2 = [97] := by rw [hj2]; unfold lastJ; simp only; rw [if_neg (by omega)]
  have hbr2 := (hjs2.free_ rfl).1
  have HR1 : Hid (roomJ j1 = room) := Lib.hid hr1
  have HR2 : Hid (roomJ j2 = room) := Lib.hid (by unfold roomJ; rw [hh2, hroom])
  have OP1 := Lib.hid hop
  have C2 := Lib.hid hc2
  have OPS1 : Hid (s1.ops < 900000000) := Lib.hid (by omega)
  have OPS2 : Hid (s2.ops ≤ 3001) := Lib.hid (by omega)
  have L2 := Lib.hid hl2'
  have G2 := Lib.hid hg2
  have U2 := Lib.hid hu2
  have JS2 := Lib.hid hjs2
  have BR2 := Lib.hid hbr2
  have HN9 : Hid (max 0 (min (n : Int) 4096) = (n : Int)) := Lib.hid (by omega)
  have HSJ := Lib.hid (jsectors_any · (sz : Int))
  generalize hsec : sectorsJ (sz : Int) = sec at HBIG HSM HSJ hsj0
  have hmk : ∀ (W : World), (Instr.makeSlice 31 (.int .i64 (sz : Int)) (.int .i64 (sz : Int))).run Try.prog W = .ok (.slice (some ⟨W.heap.size, 0, none⟩) sz sz) (W.alloc (.cells (zerosA (.int .u8 0) sz) 5)) := fun W => by
    obtain ⟨i, hi, hz, hs, hb⟩ := info_parts elem_byte.info
    exact run_make1 31 5 i _ elem_byte.und hi hz hs rfl .i64 .i64 sz (by rw [hb]; omega) (by omega) W
  have HMK := Lib.hid hmk
  have HZ15 := Lib.hid hz15
  have HNB := Lib.hid (And.intro hn4 hn43)
  clear hsec hop hjs hup hg0 hhf hops hsl1 hr1 hc2 hcu2 hco2 hu2 hj2 hjs2 hg2 hh2 hl2' hbr2 hroom hnh hmk hz15 hn4 hn43 hrb
  go_enter Try.func6, Try.ntmps6
  go_upto_region 2 with fail
  rw [HNE.out, HZE.out]
  clear HNE HZE
  go_wp2_with fail
  refine (dm_new (DM.start w) n n HN9.out).mono ?_
  rintro en w1 ⟨d, rfl, h⟩
  have D1 := Lib.hid h
  clear h
  go_wp2_with fail
  refine (jopen_any D1.out (by show (Dk.new n).ops < _; simp [Dk.new])).mono ?_
  rw [OP1.out]
  rintro en w2 h
  rcases h with ⟨h, _⟩ | ⟨_, q, rs1, rfl, _, hj⟩
  · exact absurd rfl h
  have J1 := Lib.hid hj
  clear hj D1 OP1
  have kc := Lib.run_convert_bytes_const (P := Try.prog) w2 31 5 #[.int .u8 97] 1 1 Try.underlying31 Try.underlying5
  have hk := reads_constIn w2 [97] 5 (1, 2) #[.int .u8 97] 1 rfl rfl (by decide)
  simp only [List.size_toArray, List.length_cons, List.length_nil, Nat.zero_add, Nat.reduceAdd] at kc
  have J1b := Lib.hid (J1.out.read ((Below.refl _ w2).alloc (Nat.le_refl _) _) hk)
  clear hk
  dsimp only
  go_wp2_with fail
  refine (jroom_any J1.out).mono ?_
  rw [HR1.out]
  rintro en w2' ⟨rfl, rfl⟩
  have ⟨e1, e2, e3, e4⟩ := HE1.out
  have e5 := HE2.out
  have e6 := HRB.out
  have err : ((room : Int) == (room : Int)) = true := by simp
  go_wp2_with fail
  clear e1 e2 e3 e4 e5 e6 err
  refine (jcommit_any J1b.out OPS1.out _ [97] (.inr (.inr (.head _))) (by decide)).mono ?_
  rw [C2.out]
  rintro en w3 ⟨rfl, rs2, _, hj⟩
  have J2 := Lib.hid hj
  clear hj J1 J1b C2 kc
  go_upto_region 7 with fail
  rw [HMK.out]
  have kz : Blk (w3.alloc (.cells (zerosA (.int .u8 0) sz) 5)) w3.heap.size 5 (bytesV (List.replicate sz 0)) := by
    have h := Blk.freshA w3 5 (zerosA (.int .u8 0) sz)
    rw [zerosA_toList] at h
    rw [bytesV_zeros]
    exact h
  have J3 := Lib.hid (J2.out.more ((Below.refl _ w3).alloc (Nat.le_refl _) (.cells (zerosA (.int .u8 0) sz) 5)) (Nat.le_refl _) kz)
  clear kz J2 HMK
  generalize hg : w3.heap.size = g at J3 ⊢
  generalize (w3.alloc (.cells (zerosA (.int .u8 0) sz) 5)) = wA at J3 ⊢
  clear hg
  go_wp2
  go_loopw [57] (fun i wr => ∃ (k : Nat) (bs : List UInt8), k ≤ sz ∧ i = .int .i64 k ∧ Hid (bs.length = sz ∧ bs.take k = List.replicate k x) ∧ Hid (JD w wr [] d s2 q j2 [(g, 5, bytesV bs)] rs2)) (fun i _ => sz - (intOf i).toNat)
  case atStart => exact ⟨0, List.replicate sz 0, by omega, rfl, Lib.hid ⟨by simp, by simp⟩, J3⟩
  case round =>
    obtain ⟨k, bs, hk, rfl, hbs, hjd⟩ := hrel
    by_cases hlt : k < sz
    · obtain ⟨y, hy⟩ : ∃ y, bs[k]? = some y := ⟨bs[k]'(by rw [hbs.out.1]; exact hlt), List.getElem?_eq_getElem _⟩
      have hblk := hjd.out.blk (.head _)
      simp only at hblk
      have c0 : wr.cell? ⟨g, k, none⟩ = some (.int .u8 (y.toNat : Int)) := by
        rw [hblk.cell]
        simp [bytesV, hy]
      have f0 := hblk.free k
      have i0 : (0 : Int) ≤ (k : Int) := by omega
      have i1 : (k : Int) < (sz : Int) := by omega
      have i2 := HZ15.out
      have HBL := Lib.hid hblk
      clear hy hblk J3
      go_wp2
      go_roundw
      case rel =>
        have hk5 := HBL.out.put k (.int .u8 (x.toNat : Int))
        rw [bytesV_set] at hk5
        have ho5 : Off (fun i => i = g) wr (wr.setCell ⟨g, k, none⟩ (.int .u8 (x.toNat : Int))) := Off.setCell (S := fun i => i = g) (Off.refl _ _) (p := ⟨g, k, none⟩) (.inl rfl) _
        refine ⟨k + 1, bs.set k x, by omega, by go_num, Lib.hid ⟨by simpa using hbs.out.1, ?_⟩, Lib.hid (hjd.out.turn ho5 hk5)⟩
        · rw [List.take_add_one, List.take_set_of_le (Nat.le_refl _), hbs.out.2, List.getElem?_set_self (by rw [hbs.out.1]; exact hlt), List.replicate_succ']
          rfl
      case measure => simp [intOf]; omega
    · have hks : k = sz := by omega
      subst hks
      have HE : Hid (bs = List.replicate k x) := Lib.hid (by
        have := hbs.out.2
        rwa [List.take_of_length_le (by rw [hbs.out.1]; omega)] at this)
      have J4 : Hid (JD w wr [] d s2 q j2 [(g, 5, bytesV (List.replicate k x))] rs2) := Lib.hid (by rw [← HE.out]; exact hjd.out)
      have i2 := HZ15.out
      clear hbs hjd HE J3
      have hob : s2.ops < 900000000 := by have := OPS2.out; omega
      by_cases hbig : room < k
      · have hc : commitJ j2 s2 (List.replicate k x) = (j2, s2, 8) := by
          unfold commitJ
          rw [if_neg (by rw [BR2.out]; simp), if_pos (.inl (by rw [HR2.out, List.length_replicate]; exact hbig))]
        have HC := Lib.hid hc
        have HB1 := Lib.hid (HBIG.out hbig)
        have tb : decide ((room : Int) < (k : Int)) = true := by simp; omega
        clear hc
        go_wp2_with fail
        refine (jcommit_any J4.out hob _ (List.replicate k x) (.inr (.inl ⟨g, _, k, rfl, by simp, by omega, .head _⟩)) (by simp; omega)).mono ?_
        rw [HC.out]
        rintro en w5 ⟨rfl, rs5, _, hj⟩
        have J5 := Lib.hid hj
        have hl := jlast_any J5.out
        rw [G2.out, L2.out, show decide ((1 : Nat) ≠ 0) = true from rfl] at hl
        have HL := Lib.hid hl
        clear hj J4 hl HC
        dsimp only
        go_wp2_with fail
        refine HL.out.mono ?_
        rintro en w7 ⟨A7, n7, c7, rfl, hb7, hr7⟩
        have J7 := Lib.hid (J5.out.read hb7 hr7)
        have s7 := run_strJ hr7.reads
        clear hb7 hr7 J5 HL
        go_wp2_with fail
        refine (jroom_any J7.out).mono ?_
        rw [HR2.out]
        rintro en w8 ⟨rfl, rfl⟩
        go_wp2_with fail
        refine (jgen_any J7.out).mono ?_
        rw [G2.out]
        rintro en w9 ⟨rfl, rfl⟩
        go_wp2_with fail
        refine (HSJ.out _).mono ?_
        rintro en w10 ⟨rfl, rfl⟩
        have ⟨e1, e2, e3, e4⟩ := HE3.out
        have e5 := HB1.out
        have e6 := hsj0.out
        have e7 := HNB.out
        have tl : decide (((n : Int) - (nq : Int)) < sec) = true := by simp; omega
        go_wp2_with fail
        refine (awake6_any _).mono ?_
        rintro en w9 ⟨rfl, hb⟩
        have J9 := Lib.hid (J7.out.below hb)
        clear hb
        go_wp2
        go_ret
        exact ⟨rfl, J9.out.bel⟩
      · obtain ⟨j3, s3, e3, hc3, hends3, hcu3, _, _⟩ := commit_law JS2.out (b := List.replicate k x) (by rw [HR2.out]; simp; omega) (by have := G2.out; omega)
        obtain ⟨rfl, _⟩ := hcu3 U2.out
        rcases hends3 with ⟨_, hj3, _⟩ | ⟨h9, _⟩
        case inr => exact absurd h9 (by decide)
        have HC := Lib.hid hc3
        have HR3 : Hid (roomJ j3 = room) := Lib.hid (by rw [← HR2.out, hj3]; rfl)
        have G3 : Hid (j3.gen = 2) := Lib.hid (by rw [hj3]; simp only; rw [G2.out])
        have L3 : Hid (lastJ j3 = List.replicate k x) := Lib.hid (by rw [hj3]; unfold lastJ; simp only; rw [if_neg (by omega)])
        have HB1 := Lib.hid (HSM.out (by omega))
        have tb : decide ((room : Int) < (k : Int)) = false := by simp; omega
        clear hc3 hj3 hcu3
        go_wp2_with fail
        refine (jcommit_any J4.out hob _ (List.replicate k x) (.inr (.inl ⟨g, _, k, rfl, by simp, by omega, .head _⟩)) (by simp; omega)).mono ?_
        rw [HC.out]
        rintro en w5 ⟨rfl, rs5, _, hj⟩
        have J5 := Lib.hid hj
        have hl := jlast_any J5.out
        rw [G3.out, L3.out, show decide ((2 : Nat) ≠ 0) = true from rfl] at hl
        have HL := Lib.hid hl
        clear hj J4 hl HC
        dsimp only
        go_wp2_with fail
        refine HL.out.mono ?_
        rintro en w7 ⟨A7, n7, c7, rfl, hb7, hr7⟩
        have J7 := Lib.hid (J5.out.read hb7 hr7)
        have s7 := run_strJ hr7.reads
        have hkb : Blk w7 g 5 (bytesV (List.replicate k x)) := J7.out.blk (.head _)
        have s8 : (convert 31 9 (.slice (some ⟨g, 0, none⟩) k k)).run Try.prog w7 = .ok (.string ⟨(List.replicate k x).toArray⟩) w7 := run_strJ (B := w7.heap.size) (J7.out.argReads0 (.inr (.inl ⟨g, _, k, rfl, by simp, by omega, .head _⟩)))
        have tss : ((List.replicate k x) == (List.replicate k x)) = true := by simp
        clear hb7 hr7 J5 HL hkb
        go_wp2_with fail
        refine (jroom_any J7.out).mono ?_
        rw [HR3.out]
        rintro en w8 ⟨rfl, rfl⟩
        go_wp2_with fail
        refine (jgen_any J7.out).mono ?_
        rw [G3.out]
        rintro en w9 ⟨rfl, rfl⟩
        go_wp2_with fail
        refine (HSJ.out _).mono ?_
        rintro en w10 ⟨rfl, rfl⟩
        have e5 := HB1.out
        have e6 := hsj0.out
        have e7 := HNB.out
        have tl : decide (sec ≤ (n : Int)) = true := by simp; omega
        go_wp2_with fail
        refine (awake6_any _).mono ?_
        rintro en w9 ⟨rfl, hb⟩
        have J9 := Lib.hid (J7.out.below hb)
        clear hb
        go_wp2
        go_ret
        exact ⟨rfl, J9.out.bel⟩
end Go.Proofs.Ytjddplddpdcmdaa
