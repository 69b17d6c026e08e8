/- Contract of codec's reader.param. -/
import Derived.Test.YtcjpibdgnjncmaaCodDec1
namespace Go.Proofs.Ytcjpibdgnjncmaa
open Go.RowKit
set_option linter.unusedVariables false
set_option linter.unusedSimpArgs false

def zcells : List Value := [.slice none 0 0, .int .i64 0, .slice none 0 0, .slice none 0 0, .slice none 0 0, .int .i64 0, .slice none 0 0]
/-- while a param is read: the told param's block is w0.heap.size, the local one's the next; its rows lie from there on, below U -/
structure PS (w0 w : World) (U q p : Nat) (A0 A : Option Addr) (c : Nat) (z : CS) (cs : List Value) (pv : ParV) : Prop where
  cr : CR w q p A c z
  res : Blk w w0.heap.size 43 zcells
  loc : Blk w (w0.heap.size + 1) 43 cs
  ins : pv.In (fun g => w0.heap.size + 2 ≤ g ∧ g < U) w
  off : Off (fun i => i = p ∨ i = q) w0 w
  hU : w0.heap.size + 2 ≤ U ∧ U ≤ w.heap.size
  lq : q < w0.heap.size ∧ p < w0.heap.size
  sa : SameA A0 A
  alt : Hid (0 < z.s.1.length → ∀ a, A = some a → a.block < w0.heap.size)
section
variable {w0 w w' : World} {U U' q p : Nat} {A0 A A' : Option Addr} {c c' : Nat} {z z' : CS} {cs cs' : List Value} {pv pv' : ParV}
theorem PS.over {S : Nat → Prop} (h : PS w0 w U q p A0 A c z cs pv) (ho : Off S w w') (hS : ∀ i, S i → U ≤ i) : PS w0 w' U q p A0 A c z cs pv := by
  have hU := h.hU
  have hq := h.lq
  have hn : ∀ i, i < U → ¬ S i := fun i hi hs => by have := hS i hs; omega
  refine ⟨h.cr.offA ho (hn q (by omega)) (hn p (by omega)) (fun h0 a ha => hn _ (by have := h.alt.out h0 a ha; omega)), h.res.off ho (hn _ (by omega)), h.loc.off ho (hn _ (by omega)), h.ins.off ho (fun g hg _ => hn g hg.2) (fun g hg _ => hg), h.off.trans ho (fun i hi => .inr (by have := hS i hi; omega)), ⟨hU.1, by have := ho.size; omega⟩, hq, h.sa, h.alt⟩
theorem PS.below (h : PS w0 w U q p A0 A c z cs pv) (hb : Below w.heap.size w w') : PS w0 w' U q p A0 A c z cs pv :=
  h.over (S := fun i => w.heap.size ≤ i) (Off.of_below hb (fun i hi => .inl hi)) (fun i hi => by have := h.hU.2; omega)
theorem PS.more (h : PS w0 w U q p A0 A c z cs pv) (hU : U ≤ U') (hw : U' ≤ w.heap.size) : PS w0 w U' q p A0 A c z cs pv := by
  have h1 := h.hU
  exact ⟨h.cr, h.res, h.loc, h.ins.off (Off.refl (fun _ => False) w) (fun _ _ _ h => h) (fun g hg _ => ⟨hg.1, by omega⟩), h.off, ⟨by omega, hw⟩, h.lq, h.sa, h.alt⟩
theorem PS.step (h : PS w0 w U q p A0 A c z cs pv) (hc : CR w' q p A' c' z') (ho : Off (fun i => i = p ∨ i = q) w w') (hA : SameA A A') (hl : z'.s.1.length ≤ z.s.1.length) : PS w0 w' U q p A0 A' c' z' cs pv := by
  have hU := h.hU
  have hq := h.lq
  refine ⟨hc, h.res.off ho (by show ¬ (_ ∨ _); omega), h.loc.off ho (by show ¬ (_ ∨ _); omega), h.ins.off ho (fun g hg _ => by show ¬ (_ ∨ _); omega) (fun g hg _ => hg), h.off.trans ho (fun i hi => .inl hi), ⟨hU.1, by have := ho.size; omega⟩, hq, h.sa.trans hA, Lib.hid (fun h0 a ha => ?_)⟩
  obtain ⟨b, hb, e⟩ := hA a ha
  rw [← e]
  exact h.alt.out (by omega) b hb
theorem PS.read (h : PS w0 w U q p A0 A c z cs pv) {s' : RdV} (hr : Rd 84 w' p A' c' s'.1 s'.2) (hA : ∀ a, A' = some a → ∃ b, A = some b ∧ b.block = a.block) (ho : Off (fun i => i = p) w w') (hl : s'.1.length ≤ z.s.1.length) : PS w0 w' U q p A0 A' c' ⟨z.e, s'⟩ cs pv :=
  h.step (h.cr.read hr hA ho hl) (ho.mono (fun i hi => .inl (.inl hi))) hA hl
theorem PS.check (h : PS w0 w U q p A0 A c z cs pv) (hc : CR w' q p A c z') (ho : Off (fun i => i = q) w w') (hz : z'.s = z.s) : PS w0 w' U q p A0 A c z' cs pv :=
  h.step hc (ho.mono (fun i hi => .inl (.inr hi))) (SameA.refl A) (by rw [hz]; exact Nat.le_refl _)
/-- the local param is turned -/
theorem PS.turn (h : PS w0 w U q p A0 A c z cs pv) (ho : Off (fun i => i = w0.heap.size + 1) w w') (hk : Blk w' (w0.heap.size + 1) 43 cs') (hi : pv'.In (fun g => w0.heap.size + 2 ≤ g ∧ g < U) w') : PS w0 w' U q p A0 A c z cs' pv' := by
  have hU := h.hU
  have hq := h.lq
  exact ⟨h.cr.offA ho (by show ¬ _ = _; omega) (by show ¬ _ = _; omega) (fun h0 a ha => by have := h.alt.out h0 a ha; show ¬ _ = _; omega), h.res.off ho (by show ¬ _ = _; omega), hk, hi, h.off.trans ho (fun i hi => .inr (by omega)), ⟨hU.1, by have := ho.size; omega⟩, hq, h.sa, h.alt⟩
/-- it is told -/
theorem PS.fin (h : PS w0 w U q p A0 A c z cs pv) (a1 a2 a3 a4 a5 a6 a7 : Value) :
    Blk (seven w w0.heap.size a1 a2 a3 a4 a5 a6 a7) w0.heap.size 43 [a1, a2, a3, a4, a5, a6, a7] ∧ CR (seven w w0.heap.size a1 a2 a3 a4 a5 a6 a7) q p A c z ∧
    pv.In (fun g => w0.heap.size ≤ g) (seven w w0.heap.size a1 a2 a3 a4 a5 a6 a7) ∧ Off (fun i => i = p ∨ i = q) w0 (seven w w0.heap.size a1 a2 a3 a4 a5 a6 a7) := by
  have hU := h.hU
  have hq := h.lq
  obtain ⟨ho, hb⟩ := seven_ok h.res a1 a2 a3 a4 a5 a6 a7
  exact ⟨hb, h.cr.offA ho (by show ¬ _ = _; omega) (by show ¬ _ = _; omega) (fun h0 a ha => by have := h.alt.out h0 a ha; show ¬ _ = _; omega), h.ins.off ho (fun g hg _ => by show ¬ _ = _; omega) (fun g hg _ => by omega), h.off.trans ho (fun i hi => .inr (by omega))⟩
end
/-- a param was read -/
def ParR (w : World) (q p : Nat) (A : Option Addr) (t : PD) (en : Ending) (w' : World) : Prop :=
  ∃ A' c' pv, en = .returned (.agg #[pv.wd, .int .i64 pv.c.we, pv.wx, pv.mv, pv.bd, .int .i64 pv.c.be, pv.bx]) ∧ ParV.In (fun g => w.heap.size ≤ g) w' pv ∧ (t.z.e = 0 → pv.c = t.p) ∧ CR w' q p A' c' t.z ∧ SameA A A' ∧ Off (fun i => i = p ∨ i = q) w w'
theorem decT_x (z : CS) (d : List Int) : (decT z d).x.length ≤ 8192 ∧ (∀ x ∈ (decT z d).x, -128 ≤ x ∧ x ≤ 127) ∧ (-9223372036854775808 ≤ (decT z d).e ∧ (decT z d).e ≤ 9223372036854775807) := by
  unfold decT
  dsimp only
  refine ⟨?_, i8s_in _, ?_⟩
  · have h1 := sizeI_bound d
    have h2 := takeOut_len (rds z.s 1).1 (rds z.s 1).2 (sizeI d).toNat
    rw [show (((sizeI d).toNat : Nat) : Int) = sizeI d by omega] at h2
    unfold i8s rdt
    rw [List.length_map]
    omega
  · have := i8_in (deB (rdt z.s 1) : Int)
    omega
theorem decT_len (z : CS) (d : List Int) : (decT z d).z.s.1.length ≤ z.s.1.length := Nat.le_trans (rds_len _ _) (rds_len _ _)
theorem elem_i32k : ElemOf Try.prog 41 21 (.int .i32 0) 4 := ⟨Try.underlying41, by kernel_rfl, rfl⟩
theorem elem_intk : ElemOf Try.prog 26 3 (.int .i64 0) 8 := ⟨Try.underlying26, by kernel_rfl, rfl⟩
theorem rdRun_next (k : Nat) (f : List UInt8 → Int) (n m : Nat) (h : m < n) (z : List Int × RdV) : rdRun k f (n - m) z = rdRun k f (n - (m + 1)) (z.1 ++ [f (rdt z.2 k)], rds z.2 k) := by
  rw [show n - m = (n - (m + 1)) + 1 by omega, rdRun]
set_option maxRecDepth 100000 in
set_option maxHeartbeats 6400000 in
theorem rparam_any (w : World) (q p : Nat) (A : Option Addr) (c : Nat) (z : CS) (h : CR w q p A c z) (h0 : z.e = 0) (t : PD) (ht : decP z = t) :
    Calls Try.prog 29 #[.pointer (some ⟨q, 0, none⟩)] w (ParR w q p A t) := by
  have hlq := h.lt
  have hps : PS w ((w.alloc (.cells #[.slice none 0 0, .int .i64 0, .slice none 0 0, .slice none 0 0, .slice none 0 0, .int .i64 0, .slice none 0 0] 43)).alloc (.cells #[.slice none 0 0, .int .i64 0, .slice none 0 0, .slice none 0 0, .slice none 0 0, .int .i64 0, .slice none 0 0] 43)) (w.heap.size + 2) q p A A c z zcells zeroV := by
    have hb : Below w.heap.size w ((w.alloc (.cells #[.slice none 0 0, .int .i64 0, .slice none 0 0, .slice none 0 0, .slice none 0 0, .int .i64 0, .slice none 0 0] 43)).alloc (.cells #[.slice none 0 0, .int .i64 0, .slice none 0 0, .slice none 0 0, .slice none 0 0, .int .i64 0, .slice none 0 0] 43)) := ((Below.refl _ w).alloc (Nat.le_refl _) _).alloc (by simp) _
    have k2 := Blk.fresh (w.alloc (.cells #[.slice none 0 0, .int .i64 0, .slice none 0 0, .slice none 0 0, .slice none 0 0, .int .i64 0, .slice none 0 0] 43)) 43 [.slice none 0 0, .int .i64 0, .slice none 0 0, .slice none 0 0, .slice none 0 0, .int .i64 0, .slice none 0 0]
    rw [World.size_alloc] at k2
    exact ⟨h.below hb, (Blk.fresh w 43 [.slice none 0 0, .int .i64 0, .slice none 0 0, .slice none 0 0, .slice none 0 0, .int .i64 0, .slice none 0 0]).alloc _, k2, zeroV_in _ _, Off.of_below hb (fun i hi => .inr hi), ⟨by omega, by simp⟩, hlq, SameA.refl A, Lib.hid h.alt⟩
  obtain ⟨e0, s⟩ := z
  dsimp only at h0
  subst h0
  have HS := Lib.hid hps
  have hlen := h.len
  have hk := Lib.hid hps.cr.blk
  have lq := hps.cr.lt.1
  have m0 := hk.out.cell 0
  have m1 := hk.out.cell 1
  simp only [List.getElem?_cons_zero, List.getElem?_cons_succ] at m0 m1
  dsimp only at hlen m1
  obtain ⟨s1, hs1⟩ : ∃ s1, rds s 1 = s1 := ⟨_, rfl⟩
  obtain ⟨n1, hn1⟩ : ∃ n1, deB (rdt s 1) = n1 := ⟨_, rfl⟩
  have HT := Lib.hid (ru8_any _ p A c s.1 s.2 hps.cr.rd (by omega))
  rw [show deB (takeOut s.1 s.2 1) = n1 from hn1, show takeLeft s.1 s.2 1 = s1.1 by rw [← hs1]; rfl, show takeErr s.1 s.2 1 = s1.2 by rw [← hs1]; rfl] at HT
  have l1 : s1.1.length ≤ s.1.length := by rw [← hs1]; exact rds_len _ _
  have b1 : n1 < 256 := by rw [← hn1]; exact deB_u8 _
  have HTT : Hid (t = decP2 (chk ⟨0, s1⟩ (decide (n1 ≤ 4))) n1) := Lib.hid (by rw [← ht]; unfold decP; dsimp only; rw [hs1, hn1])
  clear ht hs1 hn1 h hps hk
  go_enter Try.func29, Try.ntmps29
  go_wp2_with fail
  clear m0 m1
  generalize ((w.alloc (.cells #[.slice none 0 0, .int .i64 0, .slice none 0 0, .slice none 0 0, .slice none 0 0, .int .i64 0, .slice none 0 0] 43)).alloc (.cells #[.slice none 0 0, .int .i64 0, .slice none 0 0, .slice none 0 0, .slice none 0 0, .int .i64 0, .slice none 0 0] 43)) = w1 at HS HT lq ⊢
  refine HT.out.mono ?_
  clear HT
  rintro en w2 ⟨rfl, A2, c2, hrd, hA, ho⟩
  have HS2 := Lib.hid (HS.out.read (s' := s1) hrd hA ho l1)
  clear hrd hA ho HS lq
  dsimp only at HS2
  by_cases hn4 : n1 ≤ 4
  · have t1 : decide ((n1 : Int) ≤ 4) = true := decide_eq_true (by omega)
    have t1' : decide (n1 ≤ 4) = true := decide_eq_true hn4
    rw [t1'] at HTT
    clear t1'
    go_wp2_with fail
    obtain ⟨z1, hz'⟩ : ∃ z', chk ⟨0, s1⟩ true = z' := ⟨_, rfl⟩
    refine (check_any w2 q p A2 c2 ⟨0, s1⟩ true HS2.out.cr z1 hz').mono ?_
    rintro en w3 ⟨rfl, hc6, ho6⟩
    have HS3 := Lib.hid (HS2.out.check hc6 ho6 (by rw [← hz']; rfl))
    have HZ_z1 := Lib.hid hz'
    clear hz' hc6 ho6 HS2
    rw [HZ_z1.out] at HTT
    have HZS1 : Hid (z1.s = s1) := Lib.hid (by rw [← HZ_z1.out]; rfl)
    clear t1
    by_cases he1 : z1.e = 0
    · have te1 : decide (z1.e = 0) = true := decide_eq_true he1
      by_cases hn0 : n1 = 0
      · subst hn0
        have HTT : Hid (t = ⟨z1, zeroC⟩) := Lib.hid (by rw [HTT.out]; unfold decP2; rw [if_pos (.inr rfl)])
        clear he1
        have hkl := Lib.hid HS3.out.loc
        have hkr := Lib.hid HS3.out.res
        have ll := hkl.out.lt
        have lr := hkr.out.lt
        have f0 := hkr.out.free 0
        have f1 := hkr.out.free 1
        have f2 := hkr.out.free 2
        have f3 := hkr.out.free 3
        have f4 := hkr.out.free 4
        have f5 := hkr.out.free 5
        have f6 := hkr.out.free 6
        unfold zcells at hkl
        unfold zcells at hkr
        have m0 := hkl.out.cell 0
        have m1 := hkl.out.cell 1
        have m2 := hkl.out.cell 2
        have m3 := hkl.out.cell 3
        have m4 := hkl.out.cell 4
        have m5 := hkl.out.cell 5
        have m6 := hkl.out.cell 6
        simp only [List.getElem?_cons_zero, List.getElem?_cons_succ] at m0 m1 m2 m3 m4 m5 m6
        have r0 := hkr.out.cell 0
        have r1 := hkr.out.cell 1
        have r2 := hkr.out.cell 2
        have r3 := hkr.out.cell 3
        have r4 := hkr.out.cell 4
        have r5 := hkr.out.cell 5
        have r6 := hkr.out.cell 6
        simp only [List.getElem?_cons_zero, List.getElem?_cons_succ] at r0 r1 r2 r3 r4 r5 r6
        go_wp2_with fail
        clear f0 f1 f2 f3 f4 f5 f6 m0 m1 m2 m3 m4 m5 m6 r0 r1 r2 r3 r4 r5 r6 hkl hkr
        have hq := HS3.out.fin (.slice none 0 0) (.int .i64 0) (.slice none 0 0) (.slice none 0 0) (.slice none 0 0) (.int .i64 0) (.slice none 0 0)
        unfold seven at hq
        generalize (((((((w3.setCell ⟨w.heap.size, 0, none⟩ (.slice none 0 0)).setCell ⟨w.heap.size, 1, none⟩ (.int .i64 0)).setCell ⟨w.heap.size, 2, none⟩ (.slice none 0 0)).setCell ⟨w.heap.size, 3, none⟩ (.slice none 0 0)).setCell ⟨w.heap.size, 4, none⟩ (.slice none 0 0)).setCell ⟨w.heap.size, 5, none⟩ (.int .i64 0)).setCell ⟨w.heap.size, 6, none⟩ (.slice none 0 0)) = W at hq ⊢
        obtain ⟨hqb, hqc, hqi, hqo⟩ := hq
        have hqb := Lib.hid hqb
        have p0 := hqb.out.cell 0
        have p1 := hqb.out.cell 1
        have p2 := hqb.out.cell 2
        have p3 := hqb.out.cell 3
        have p4 := hqb.out.cell 4
        have p5 := hqb.out.cell 5
        have p6 := hqb.out.cell 6
        simp only [List.getElem?_cons_zero, List.getElem?_cons_succ] at p0 p1 p2 p3 p4 p5 p6
        refine bodyPost_ret (v := .agg #[.slice none 0 0, .int .i64 0, .slice none 0 0, .slice none 0 0, .slice none 0 0, .int .i64 0, .slice none 0 0]) ?_ rfl ?_
        · simp [results, Try.results29, asAddr, Result.andThen, p0, p1, p2, p3, p4, p5, p6, go_sem]
        · rw [HTT.out]
          exact ⟨A2, c2, zeroV, rfl, hqi, fun _ => rfl, hqc, HS3.out.sa, hqo⟩
      · have t2 : ((n1 : Int) == 0) = false := by rw [beq_eq_false_iff_ne]; omega
        obtain ⟨R, hR⟩ : ∃ R, rdRun 2 num2 n1 ([], z1.s) = R := ⟨_, rfl⟩
        have HTT : Hid (t = decP3 (chk ⟨z1.e, R.2⟩ (decide (0 < sizeI R.1))) R.1) := Lib.hid (by rw [HTT.out]; unfold decP2; rw [if_neg (by omega), hR])
        have HR := Lib.hid hR
        have HE1 := Lib.hid he1
        have hl1 : z1.s.1.length ≤ 140737488351232 := by rw [HZS1.out]; omega
        clear hR he1 hn0 hn4
        go_wp2_with fail
        clear t2 te1
        go_loopw [5, 22] (fun v i wr => ∃ (m : Nat) (Au : Option Addr) (cu : Nat) (A' : Option Addr) (c' : Nat) (rs : List Int × RdV), m ≤ n1 ∧ v = .slice Au m cu ∧ i = .int .i64 m ∧ Hid (PS w wr (w.heap.size + 2) q p A A' c' ⟨z1.e, rs.2⟩ zcells zeroV ∧ wr.ownsRow (w.heap.size + 2) 3 1 (.slice Au m cu) m (ints .i64 rs.1) ∧ rs.1.length = m ∧ rdRun 2 num2 (n1 - m) rs = R ∧ rs.2.1.length ≤ z1.s.1.length ∧ ∀ x ∈ rs.1, 0 ≤ x ∧ x ≤ 65535)) (fun _ i _ => n1 - (intOf i).toNat)
        case atStart => exact ⟨0, none, 0, A2, c2, ([], z1.s), by omega, rfl, rfl, Lib.hid ⟨HS3.out, World.ownsRow_nil _ _ _ _, rfl, HR.out, Nat.le_refl _, by simp⟩⟩
        case round =>
          obtain ⟨m, Au, cu, A', c', rs, hm, rfl, rfl, HX⟩ := hrel
          clear HS3
          have hkq := Lib.hid HX.out.1.cr.blk
          have lq := hkq.out.lt
          have m0 := hkq.out.cell 0
          have m1 := hkq.out.cell 1
          simp only [List.getElem?_cons_zero, List.getElem?_cons_succ] at m0 m1
          by_cases hlt : m < n1
          · obtain ⟨s', hs'⟩ : ∃ s', rds rs.2 2 = s' := ⟨_, rfl⟩
            obtain ⟨n2, hn2⟩ : ∃ n2, deB (rdt rs.2 2) = n2 := ⟨_, rfl⟩
            have hlr := HX.out.2.2.2.2.1
            have HT := Lib.hid (ru16_any wr p A' c' rs.2.1 rs.2.2 HX.out.1.cr.rd (by omega))
            rw [show deB (takeOut rs.2.1 rs.2.2 2) = n2 from hn2, show takeLeft rs.2.1 rs.2.2 2 = s'.1 by rw [← hs']; rfl, show takeErr rs.2.1 rs.2.2 2 = s'.2 by rw [← hs']; rfl] at HT
            have l' : s'.1.length ≤ rs.2.1.length := by rw [← hs']; exact rds_len _ _
            have b2 : n2 < 65536 := by rw [← hn2]; exact deB_u16 _
            have HN : Hid (rdRun 2 num2 (n1 - (m + 1)) (rs.1 ++ [(n2 : Int)], s') = R) := Lib.hid (by rw [← HX.out.2.2.2.1, rdRun_next 2 num2 n1 m hlt, ← hs', ← hn2]; rfl)
            have i7 : (0 : Int) ≤ (m : Int) := by omega
            have hlqq := HX.out.1.lq
            clear hs' hn2 hkq
            go_wp2_with fail
            refine HT.out.mono ?_
            rintro en w5 ⟨rfl, A5, c5, hrd, hA, ho⟩
            have HS5 := Lib.hid (HX.out.1.read (s' := s') hrd hA ho l')
            have HO5 := Lib.hid (own_off HX.out.2.1 ho (fun k hk => by have := (HX.out.2.1.lt k hk).1; show ¬ k = p; omega))
            have hu5 := HS5.out.hU.2
            clear hrd hA ho HT m0 m1
            go_wp2_with (at_builtin; refine wpList_extend elem_intk _ rfl (.tmp 24) (.tmp 30) rfl (w.heap.size + 2) m _ (ints .i64 rs.1) rfl (HO5.out.alloc _) _ _ [.int .i64 n2] rfl (Reads.one_ w5 _ _) (by simp [Value.oneCell']) (by simp only [List.length_cons, List.length_nil, maxLen]; omega) (by simp only [List.length_cons, List.length_nil]; omega) (by simp only [World.size_alloc]; omega) ?_; intro A9 c9 w9 hown9 hg9 hf9; simp only [List.length_cons, List.length_nil, Nat.zero_add] at hown9 ⊢)
            have e9 : ints .i64 rs.1 ++ [.int .i64 (n2 : Int)] = ints .i64 (rs.1 ++ [(n2 : Int)]) := by rw [← ints_append]; rfl
            rw [e9] at hown9
            have HS9 := Lib.hid ((HS5.out.below ((Below.refl _ w5).alloc (Nat.le_refl _) (.cells #[.int .i64 (n2 : Int)] 3))).over (S := fun i => (Value.slice Au m cu).ownBlock = some i) ((Off.refl _ _).grown hg9 (fun k hk => .inl hk)) (fun i hi => (HO5.out.lt i hi).1))
            have HO9 := Lib.hid hown9
            clear hown9 hg9 hf9 e9
            go_wp2
            go_roundw
            case rel => exact ⟨m + 1, A9, c9, A5, c5, (rs.1 ++ [(n2 : Int)], s'), by omega, rfl, by go_num, Lib.hid ⟨HS9.out, HO9.out, by rw [List.length_append, HX.out.2.2.1]; rfl, HN.out, Nat.le_trans l' hlr, fun x hx => by
              rcases List.mem_append.1 hx with hx | hx
              · exact HX.out.2.2.2.2.2 x hx
              · rw [List.mem_singleton.1 hx]; omega⟩⟩
            case measure => simp [intOf]; omega
          · obtain rfl : m = n1 := by omega
            have hrr : rs = R := by have h1 := HX.out.2.2.2.1; rw [Nat.sub_self] at h1; exact h1
            subst hrr
            obtain ⟨dl, r2⟩ := rs
            have hdl := HX.out.2.2.1
            dsimp only at hdl HX HTT
            have HDL := Lib.hid hdl
            have HPS := Lib.hid HX.out.1
            have HOD := Lib.hid HX.out.2.1
            have HDB : Hid (∀ x ∈ dl, -9223372036854775808 ≤ x ∧ x ≤ 9223372036854775807) := Lib.hid (fun x hx => by have := HX.out.2.2.2.2.2 x hx; omega)
            have hl2 := HX.out.2.2.2.2.1
            have HDR := Lib.hid (Reads.of_own HOD.out)
            clear hlt HX hdl HR m0 m1 hkq
            go_wp2_with fail
            refine (shapemay_any dl _ wr _ HDR.out HDB.out).mono ?_
            rintro en w' ⟨rfl, rfl⟩
            obtain ⟨ok2, hok2⟩ : ∃ ok2, decide (0 < sizeI dl) = ok2 := ⟨_, rfl⟩
            rw [hok2] at HTT
            (try rw [hok2])
            clear HDR
            go_wp2_with fail
            obtain ⟨z2, hz'⟩ : ∃ z', chk ⟨z1.e, r2⟩ ok2 = z' := ⟨_, rfl⟩
            refine (check_any wr q p A' c' ⟨z1.e, r2⟩ ok2 HPS.out.cr z2 hz').mono ?_
            rintro en w6 ⟨rfl, hc6, ho6⟩
            have HS4 := Lib.hid (HPS.out.check hc6 ho6 (by rw [← hz']; rfl))
            have HZ_z2 := Lib.hid hz'
            have hlqq := HPS.out.lq
            have HOD6 := Lib.hid (own_off HOD.out ho6 (fun k hk => by have := (HOD.out.lt k hk).1; show ¬ k = q; omega))
            clear hz' hc6 ho6 HPS
            have hmn : m ≤ 255 := by omega
            rw [HZ_z2.out] at HTT
            have HZS2 : Hid (z2.s = r2) := Lib.hid (by rw [← HZ_z2.out]; rfl)
            have HO6 : Hid (w6.ownsRow (w.heap.size + 2) 3 1 (.slice Au m cu) m (ints .i64 dl)) := HOD6
            clear hok2
            by_cases he2 : z2.e = 0
            · have te2 : decide (z2.e = 0) = true := decide_eq_true he2
              obtain ⟨t3, ht3⟩ : ∃ t3, decT z2 dl = t3 := ⟨_, rfl⟩
              have HTT : Hid (t = decP4 dl t3) := Lib.hid (by rw [HTT.out]; unfold decP3; rw [if_neg (by omega), ht3])
              have HT3 := Lib.hid ht3
              have HE2 := Lib.hid he2
              have HRD := Lib.hid (RowS.of_own HO6.out (S := fun g => g ≠ p ∧ g ≠ q) (fun k hk => by have := (HO6.out.lt k hk).1; omega))
              have hx3 := decT_x z2 dl
              have hl3 := decT_len z2 dl
              rw [ht3] at hx3 hl3
              rw [HZS2.out] at hl3
              obtain ⟨hx3a, hx3b, hx3c⟩ := hx3
              have HX3 := Lib.hid hx3b
              clear ht3 he2 hx3b
              go_wp2_with fail
              refine (rtensor_any w6 q p A' c' z2 HS4.out.cr _ dl HRD.out HDB.out t3 HT3.out).mono ?_
              rintro en w7 ⟨A7, c7, xv, rfl, howx, hcr, hsa, ho⟩
              obtain ⟨Ax, cx, rfl⟩ := own_form howx
              have hu6 := HS4.out.hU
              have HS5 := Lib.hid ((HS4.out.step hcr ho hsa (by rw [HZS2.out]; exact hl3)).more (U' := w7.heap.size) (by have := ho.size; omega) (Nat.le_refl _))
              have HO7 := Lib.hid (own_off HO6.out ho (fun k hk => by have := (HO6.out.lt k hk).1; show ¬ (_ ∨ _); omega))
              have HOX := Lib.hid howx
              clear howx hcr hsa ho HS4 HO6 HRD
              have hkl := Lib.hid HS5.out.loc
              have hkr := Lib.hid HS5.out.res
              have ll := hkl.out.lt
              have lr := hkr.out.lt
              have f0 := hkr.out.free 0
              have f1 := hkr.out.free 1
              have f2 := hkr.out.free 2
              have f3 := hkr.out.free 3
              have f4 := hkr.out.free 4
              have f5 := hkr.out.free 5
              have f6 := hkr.out.free 6
              unfold zcells at hkl
              unfold zcells at hkr
              have m0 := hkl.out.cell 0
              have m1 := hkl.out.cell 1
              have m2 := hkl.out.cell 2
              have m3 := hkl.out.cell 3
              have m4 := hkl.out.cell 4
              have m5 := hkl.out.cell 5
              have m6 := hkl.out.cell 6
              simp only [List.getElem?_cons_zero, List.getElem?_cons_succ] at m0 m1 m2 m3 m4 m5 m6
              have r0 := hkr.out.cell 0
              have r1 := hkr.out.cell 1
              have r2 := hkr.out.cell 2
              have r3 := hkr.out.cell 3
              have r4 := hkr.out.cell 4
              have r5 := hkr.out.cell 5
              have r6 := hkr.out.cell 6
              simp only [List.getElem?_cons_zero, List.getElem?_cons_succ] at r0 r1 r2 r3 r4 r5 r6
              have hkq := Lib.hid HS5.out.cr.blk
              have lq := hkq.out.lt
              have k0 := hkq.out.cell 0
              have k1 := hkq.out.cell 1
              simp only [List.getElem?_cons_zero, List.getElem?_cons_succ] at k0 k1
              have g0 := hkl.out.free 0
              have g1 := hkl.out.free 1
              have g2 := hkl.out.free 2
              have hq3 : w.heap.size + 1 ≠ q := by omega
              go_upto_region 13 with fail
              clear m0 m1 m2 m3 m4 m5 m6 r0 r1 r2 r3 r4 r5 r6 f0 f1 f2 f3 f4 f5 f6 g0 g1 g2 k0 k1 ll lr lq
              have hk3 := ((hkl.out.put 0 (.slice Au m cu)).put 1 (.int .i64 t3.e)).put 2 (.slice Ax t3.x.length cx)
              have hof : Off (fun i => i = w.heap.size + 1) w7 (((w7.setCell ⟨w.heap.size + 1, 0, none⟩ (.slice Au m cu)).setCell ⟨w.heap.size + 1, 1, none⟩ (.int .i64 t3.e)).setCell ⟨w.heap.size + 1, 2, none⟩ (.slice Ax t3.x.length cx)) := (((Off.refl (fun i => i = w.heap.size + 1) w7).setCell (p := ⟨w.heap.size + 1, 0, none⟩) (.inl rfl) _).setCell (p := ⟨w.heap.size + 1, 1, none⟩) (.inl rfl) _).setCell (p := ⟨w.heap.size + 1, 2, none⟩) (.inl rfl) _
              simp only [List.set_cons_succ, List.set_cons_zero] at hk3
              have r7 := own_off HO7.out hof (fun k hk => by have := (HO7.out.lt k hk).1; show ¬ k = w.heap.size + 1; omega)
              have x7 := own_off HOX.out hof (fun k hk => by have := (HOX.out.lt k hk).1; show ¬ k = w.heap.size + 1; omega)
              have hz7 : w7.heap.size = (((w7.setCell ⟨w.heap.size + 1, 0, none⟩ (.slice Au m cu)).setCell ⟨w.heap.size + 1, 1, none⟩ (.int .i64 t3.e)).setCell ⟨w.heap.size + 1, 2, none⟩ (.slice Ax t3.x.length cx)).heap.size := by simp
              have hin : ParV.In (fun g => w.heap.size + 2 ≤ g ∧ g < w7.heap.size) (((w7.setCell ⟨w.heap.size + 1, 0, none⟩ (.slice Au m cu)).setCell ⟨w.heap.size + 1, 1, none⟩ (.int .i64 t3.e)).setCell ⟨w.heap.size + 1, 2, none⟩ (.slice Ax t3.x.length cx)) ⟨.slice Au m cu, .slice Ax t3.x.length cx, .slice none 0 0, .slice none 0 0, .slice none 0 0, ⟨dl, t3.e, t3.x, [], [], 0, []⟩⟩ := ⟨RowS.of_own r7 (fun k hk => by have := r7.lt k hk; omega), RowS.of_own x7 (fun k hk => by have := x7.lt k hk; omega), RowS.nil_ _ _, RowS.nil_ _ _, RowS.nil_ _ _, ⟨HDB, HX3, hx3c.1, hx3c.2, Lib.hid (by simp), Lib.hid (by simp), Lib.hid (by simp), by simp, by simp, by unfold lenP; have := HDL.out; simp only [List.length_nil]; omega⟩⟩
              have HS6 := Lib.hid (HS5.out.turn hof hk3 hin)
              rw [hz7] at HS6
              clear hk3 hof r7 x7 hin hkl hkr hkq HS5 HO7 HOX hz7
              generalize (((w7.setCell ⟨w.heap.size + 1, 0, none⟩ (.slice Au m cu)).setCell ⟨w.heap.size + 1, 1, none⟩ (.int .i64 t3.e)).setCell ⟨w.heap.size + 1, 2, none⟩ (.slice Ax t3.x.length cx)) = w8 at HS6 ⊢
              have hkq := Lib.hid HS6.out.cr.blk
              have lq := hkq.out.lt
              have k0 := hkq.out.cell 0
              have k1 := hkq.out.cell 1
              simp only [List.getElem?_cons_zero, List.getElem?_cons_succ] at k0 k1
              by_cases he3 : t3.z.e = 0
              · have te3 : (t3.z.e != 0) = false := by simp [he3]
                obtain ⟨R4, hR4⟩ : ∃ R, rdRun 4 num4 t3.x.length ([], t3.z.s) = R := ⟨_, rfl⟩
                have HTT : Hid (t = decP5 dl t3 R4.1 (chk ⟨t3.z.e, R4.2⟩ (movesB { zeroC with wx := t3.x, m := R4.1 }))) := Lib.hid (by rw [HTT.out]; unfold decP4; rw [if_neg (by omega), hR4])
                have HR4 := Lib.hid hR4
                have HE3 := Lib.hid he3
                have hl3' : t3.z.s.1.length ≤ 140737488351232 := by omega
                have hkl := Lib.hid HS6.out.loc
                have ll := hkl.out.lt
                have m0 := hkl.out.cell 0
                have m1 := hkl.out.cell 1
                have m2 := hkl.out.cell 2
                have m3 := hkl.out.cell 3
                have m4 := hkl.out.cell 4
                have m5 := hkl.out.cell 5
                have m6 := hkl.out.cell 6
                simp only [List.getElem?_cons_zero, List.getElem?_cons_succ] at m0 m1 m2 m3 m4 m5 m6
                clear hR4 he3
                go_wp2_with fail
                clear te3 m0 m1 m2 m3 m4 m5 m6 hkl ll k0 k1 hkq lq
                have hx8 := hx3a
                go_loopw [53] (fun i wr => ∃ (j : Nat) (Am : Option Addr) (cm : Nat) (A' : Option Addr) (c' : Nat) (rs : List Int × RdV), j ≤ t3.x.length ∧ i = .int .i64 j ∧ Hid (PS w wr w8.heap.size q p A A' c' ⟨t3.z.e, rs.2⟩ [.slice Au m cu, .int .i64 t3.e, .slice Ax t3.x.length cx, .slice Am j cm, .slice none 0 0, .int .i64 0, .slice none 0 0] ⟨.slice Au m cu, .slice Ax t3.x.length cx, .slice none 0 0, .slice none 0 0, .slice none 0 0, ⟨dl, t3.e, t3.x, [], [], 0, []⟩⟩ ∧ wr.ownsRow w8.heap.size 21 1 (.slice Am j cm) j (ints .i32 rs.1) ∧ rs.1.length = j ∧ rdRun 4 num4 (t3.x.length - j) rs = R4 ∧ rs.2.1.length ≤ t3.z.s.1.length ∧ ∀ x ∈ rs.1, -2147483648 ≤ x ∧ x ≤ 2147483647)) (fun i _ => t3.x.length - (intOf i).toNat)
                case atStart => exact ⟨0, none, 0, A7, c7, ([], t3.z.s), by omega, rfl, Lib.hid ⟨HS6.out, World.ownsRow_nil _ _ _ _, rfl, HR4.out, Nat.le_refl _, by simp⟩⟩
                case round =>
                  obtain ⟨j, Am, cm, A', c', rs, hj, rfl, HX⟩ := hrel
                  clear HS6
                  by_cases hlt : j < t3.x.length
                  · obtain ⟨s', hs'⟩ : ∃ s', rds rs.2 4 = s' := ⟨_, rfl⟩
                    obtain ⟨n2, hn2⟩ : ∃ n2, deB (rdt rs.2 4) = n2 := ⟨_, rfl⟩
                    have hlr := HX.out.2.2.2.2.1
                    have l' : s'.1.length ≤ rs.2.1.length := by rw [← hs']; exact rds_len _ _
                    have HN : Hid (rdRun 4 num4 (t3.x.length - (j + 1)) (rs.1 ++ [IntKind.i32.wrap (n2 : Int)], s') = R4) := Lib.hid (by rw [← HX.out.2.2.2.1, rdRun_next 4 num4 t3.x.length j hlt, ← hs', ← hn2]; rfl)
                    have HRT := Lib.hid hs'
                    have HNT := Lib.hid hn2
                    have i7 : (0 : Int) ≤ (j : Int) := by omega
                    have j7 : (j : Int) < (t3.x.length : Int) := by omega
                    have hlqq := HX.out.1.lq
                    clear hs' hn2
                    go_upto_region 17 with fail
                    have hdr : Below wr.heap.size wr wr.drew := (Below.refl _ _).drew
                    have HSd := Lib.hid (HX.out.1.below hdr)
                    have HOd : Hid (wr.drew.ownsRow w8.heap.size 21 1 (.slice Am j cm) j (ints .i32 rs.1)) := Lib.hid (own_off HX.out.2.1 (Off.of_below hdr (S := fun i => wr.heap.size ≤ i) (fun i hi => .inl hi)) (fun k hk => by have := (HX.out.2.1.lt k hk).2; omega))
                    clear hdr
                    have hkq := Lib.hid HSd.out.cr.blk
                    have lq := hkq.out.lt
                    have k0 := hkq.out.cell 0
                    simp only [List.getElem?_cons_zero, List.getElem?_cons_succ] at k0
                    refine wp_region_held_drew (S := ((fun w' => w'.cell? ⟨q, 0, none⟩ = some (.pointer (some ⟨p, 0, none⟩))))) (by kernel_rfl) (k0) (fun hHeld => ?_)
                    clear hkq lq
                    generalize wr.drew = wd at HSd HOd hHeld k0 ⊢
                    have hq3 : w.heap.size + 1 ≠ q := by omega
                    have hkl := Lib.hid HSd.out.loc
                    have ll := hkl.out.lt
                    have m3 := hkl.out.cell 3
                    simp only [List.getElem?_cons_zero, List.getElem?_cons_succ] at m3
                    have hHeldd := hHeld
                    have HT := Lib.hid (ru32_any wd p A' c' rs.2.1 rs.2.2 HSd.out.cr.rd (by omega))
                    rw [show deB (takeOut rs.2.1 rs.2.2 4) = n2 from HNT.out, show takeLeft rs.2.1 rs.2.2 4 = s'.1 by rw [← HRT.out]; rfl, show takeErr rs.2.1 rs.2.2 4 = s'.2 by rw [← HRT.out]; rfl] at HT
                    refine' wpAnyH_take (i := 0) (v := _) rfl (by kernel_rfl) (by kernel_rfl) (by kernel_rfl) (fun _ _ _ h => h) (Or.inl ⟨by rfl, ?taq8⟩) (by assumption) ?tbq8
                    case taq8 =>
                      intro wS hSw
                      (try dsimp only at hSw)
                      go_simp
                      (try (with_reducible rfl))
                    (try simp only [List.getElem_toArray, List.getElem_cons_zero, List.getElem_cons_succ, Act.put, List.setIfInBounds_toArray, List.set_cons_zero, List.set_cons_succ])
                    refine' wpAnyH_take (i := 2) (v := _) rfl (by kernel_rfl) (by kernel_rfl) (by kernel_rfl) (fun _ _ _ h => h) (Or.inl ⟨by rfl, ?taq9⟩) (by assumption) ?tbq9
                    case taq9 =>
                      intro wS hSw
                      (try dsimp only at hSw)
                      go_simp
                      (try (with_reducible rfl))
                    (try simp only [List.getElem_toArray, List.getElem_cons_zero, List.getElem_cons_succ, Act.put, List.setIfInBounds_toArray, List.set_cons_zero, List.set_cons_succ])
                    refine' wpAnyH_take (i := 3) (v := _) rfl (by kernel_rfl) (by kernel_rfl) (by kernel_rfl) (fun _ _ _ h => h) (Or.inl ⟨by rfl, ?taq10⟩) (by assumption) ?tbq10
                    case taq10 =>
                      intro wS hSw
                      (try dsimp only at hSw)
                      go_simp
                      (try (with_reducible rfl))
                    (try simp only [List.getElem_toArray, List.getElem_cons_zero, List.getElem_cons_succ, Act.put, List.setIfInBounds_toArray, List.set_cons_zero, List.set_cons_succ])
                    refine' wpAnyH_take (i := 4) (v := _) rfl (by kernel_rfl) (by kernel_rfl) (by kernel_rfl) (fun _ _ _ h => h) (Or.inl ⟨by rfl, ?taq11⟩) (by assumption) ?tbq11
                    case taq11 =>
                      intro wS hSw
                      (try dsimp only at hSw)
                      go_simp
                      (try (with_reducible rfl))
                    (try simp only [List.getElem_toArray, List.getElem_cons_zero, List.getElem_cons_succ, Act.put, List.setIfInBounds_toArray, List.set_cons_zero, List.set_cons_succ])
                    refine' wpAnyH_take (i := 5) (v := _) rfl (by kernel_rfl) (by kernel_rfl) (by kernel_rfl) (fun _ _ _ h => h) (Or.inl ⟨by rfl, ?taq12⟩) (by assumption) ?tbq12
                    case taq12 =>
                      intro wS hSw
                      (try dsimp only at hSw)
                      go_simp
                      (try (with_reducible rfl))
                    (try simp only [List.getElem_toArray, List.getElem_cons_zero, List.getElem_cons_succ, Act.put, List.setIfInBounds_toArray, List.set_cons_zero, List.set_cons_succ])
                    refine wpAnyH_ready (rs := [1, 6]) (by kernel_rfl) (by simp) ?_
                    refine AllReadyH.cons rfl (fun K9 hK9 => ?_) (AllReadyH.cons rfl (fun K9 hK9 => ?_) AllReadyH.nil)
                    ·
                      (try simp only [List.getElem_toArray, List.getElem_cons_zero, List.getElem_cons_succ])
                      go_simp
                      refine hK9.out _ _ ((by first | assumption | exact k0')) (fun hHeld9 => ?_)
                      clear hK9 K9
                      (try simp only [List.getElem_toArray, List.getElem_cons_zero, List.getElem_cons_succ, Act.put, List.setIfInBounds_toArray, List.set_cons_zero, List.set_cons_succ])
                      refine wpAnyH_ready (rs := [6]) (by kernel_rfl) (by simp) ?_
                      refine AllReadyH.cons rfl (fun K9 hK9 => ?_) AllReadyH.nil
                      (try simp only [List.getElem_toArray, List.getElem_cons_zero, List.getElem_cons_succ])
                      go_simp
                      refine HT.out.mono ?_
                      rintro en w5 ⟨rfl, A5, c5, hrd, hA, ho⟩
                      have HS5 := Lib.hid (HSd.out.read (s' := s') hrd hA ho l')
                      have HO5 := Lib.hid (own_off HOd.out ho (fun k hk => by have := (HOd.out.lt k hk).1; have := HSd.out.hU; show ¬ k = p; omega))
                      have hu5 := HS5.out.hU
                      have k0' := HS5.out.cr.blk.cell 0
                      simp only [List.getElem?_cons_zero] at k0'
                      have hkl5 := Lib.hid HS5.out.loc
                      have l5 := hkl5.out.lt
                      have n3 := hkl5.out.cell 3
                      simp only [List.getElem?_cons_zero, List.getElem?_cons_succ] at n3
                      clear hrd hA ho
                      refine hK9.out _ _ (k0') (fun hHeld9 => ?_)
                      clear hK9 K9
                      (try simp only [List.getElem_toArray, List.getElem_cons_zero, List.getElem_cons_succ, Act.put, List.setIfInBounds_toArray, List.set_cons_zero, List.set_cons_succ])
                      refine' wpAnyH_take (i := 7) (v := _) rfl (by kernel_rfl) (by kernel_rfl) (by kernel_rfl) (fun _ _ _ h => h) (Or.inl ⟨by rfl, ?taq13⟩) (by assumption) ?tbq13
                      case taq13 =>
                        intro wS hSw
                        (try dsimp only at hSw)
                        go_simp
                        (try (with_reducible rfl))
                      (try simp only [List.getElem_toArray, List.getElem_cons_zero, List.getElem_cons_succ, Act.put, List.setIfInBounds_toArray, List.set_cons_zero, List.set_cons_succ])
                      refine wpAnyH_ready (rs := [8]) (by kernel_rfl) (by simp) ?_
                      refine AllReadyH.cons rfl (fun K9 hK9 => ?_) AllReadyH.nil
                      have hkb := (hkl5.out.alloc (.cells #[.int .i32 (IntKind.i32.wrap (n2 : Int))] 21)).cell 3
                      have lb : w.heap.size + 1 < (w5.alloc (.cells #[.int .i32 (IntKind.i32.wrap (n2 : Int))] 21)).heap.size := by simp; omega
                      simp only [List.getElem?_cons_zero, List.getElem?_cons_succ] at hkb
                      have hkq5 : (w5.alloc (.cells #[.int .i32 (IntKind.i32.wrap (n2 : Int))] 21)).cell? ⟨q, 0, none⟩ = some (.pointer (some ⟨p, 0, none⟩)) := by
                        have h1 := (HS5.out.cr.blk.alloc (.cells #[.int .i32 (IntKind.i32.wrap (n2 : Int))] 21)).cell 0
                        simpa using h1
                      (try simp only [List.getElem_toArray, List.getElem_cons_zero, List.getElem_cons_succ])
                      go_simp
                      refine hK9.out _ _ (hkq5) (fun hHeld9 => ?_)
                      clear hK9 K9
                      (try simp only [List.getElem_toArray, List.getElem_cons_zero, List.getElem_cons_succ, Act.put, List.setIfInBounds_toArray, List.set_cons_zero, List.set_cons_succ])
                      refine wpAnyH_ready (rs := [9]) (by kernel_rfl) (by simp) ?_
                      refine AllReadyH.cons rfl (fun K9 hK9 => ?_) AllReadyH.nil
                      (try simp only [List.getElem_toArray, List.getElem_cons_zero, List.getElem_cons_succ])
                      rw [if_pos (by rfl)]
                      refine wp_extend elem_i32k (w5.alloc (.cells #[.int .i32 (IntKind.i32.wrap (n2 : Int))] 21)) _ _ (by rfl) w8.heap.size j _ _ (by rfl) (HO5.out.alloc _) _ _ [.int .i32 (IntKind.i32.wrap (n2 : Int))] (by rfl) (Reads.one_ w5 _ _) (by simp [Value.oneCell']) (by simp only [List.length_cons, List.length_nil, maxLen]; omega) (by simp only [List.length_cons, List.length_nil]; omega) (by simp only [World.size_alloc]; omega) ?_
                      intro A9 c9 w9 hown9 hg9 hf9
                      simp only [List.length_cons, List.length_nil, Nat.zero_add] at hown9 ⊢
                      have HS9 := Lib.hid ((HS5.out.below ((Below.refl _ w5).alloc (Nat.le_refl _) (.cells #[.int .i32 (IntKind.i32.wrap (n2 : Int))] 21))).over (S := fun i => (Value.slice Am j cm).ownBlock = some i) ((Off.refl _ _).grown hg9 (fun k hk => .inl hk)) (fun i hi => (HO5.out.lt i hi).1))
                      have k9 := HS9.out.cr.blk.cell 0
                      have q9 := HS9.out.loc.cell 3
                      have f9 := HS9.out.loc.free 3
                      have l9 := HS9.out.loc.lt
                      simp only [List.getElem?_cons_zero, List.getElem?_cons_succ] at k9 q9
                      refine hK9.out _ _ (k9) (fun hHeld9 => ?_)
                      clear hK9 K9
                      (try simp only [List.getElem_toArray, List.getElem_cons_zero, List.getElem_cons_succ, Act.put, List.setIfInBounds_toArray, List.set_cons_zero, List.set_cons_succ])
                      refine' wpAnyH_take (i := 10) (v := _) rfl (by kernel_rfl) (by kernel_rfl) (by kernel_rfl) (fun _ _ _ h => h) (Or.inl ⟨by rfl, ?taq14⟩) (by assumption) ?tbq14
                      case taq14 =>
                        intro wS hSw
                        (try dsimp only at hSw)
                        go_simp
                        (try (with_reducible rfl))
                      (try simp only [List.getElem_toArray, List.getElem_cons_zero, List.getElem_cons_succ, Act.put, List.setIfInBounds_toArray, List.set_cons_zero, List.set_cons_succ])
                      have hof : Off (fun i => i = w.heap.size + 1) w9 (w9.setCell ⟨w.heap.size + 1, 3, none⟩ (.slice A9 (j + 1) c9)) := (Off.refl (fun i => i = w.heap.size + 1) w9).setCell (p := ⟨w.heap.size + 1, 3, none⟩) (.inl rfl) _
                      have hk2 := HS9.out.loc.put 3 (.slice A9 (j + 1) c9)
                      simp only [List.set_cons_succ, List.set_cons_zero] at hk2
                      have hu9 := HS9.out.hU
                      have HS10 := Lib.hid (HS9.out.turn hof hk2 (HS9.out.ins.off hof (fun g hg _ => by show ¬ g = _; omega) (fun g hg _ => hg)))
                      have e9 : ints .i32 rs.1 ++ [.int .i32 (IntKind.i32.wrap (n2 : Int))] = ints .i32 (rs.1 ++ [IntKind.i32.wrap (n2 : Int)]) := by rw [← ints_append]; rfl
                      rw [e9] at hown9
                      have HO10 := Lib.hid (own_off hown9 hof (fun k hk => by have := (hown9.lt k hk).1; show ¬ k = _; omega))
                      have k10 := HS10.out.cr.blk.cell 0
                      simp only [List.getElem?_cons_zero] at k10
                      refine wpAnyH_ready (rs := [11]) (by kernel_rfl) (by simp) ?_
                      refine AllReadyH.cons rfl (fun K9 hK9 => ?_) AllReadyH.nil
                      (try simp only [List.getElem_toArray, List.getElem_cons_zero, List.getElem_cons_succ])
                      go_simp
                      refine hK9.out _ _ ((by first | exact k10 | exact k10.drew)) (fun hHeld9 => ?_)
                      clear hK9 K9
                      (try simp only [List.getElem_toArray, List.getElem_cons_zero, List.getElem_cons_succ, Act.put, List.setIfInBounds_toArray, List.set_cons_zero, List.set_cons_succ])
                      refine wpAnyH_done (by kernel_rfl) ?_ _
                      clear hown9 hg9 hf9 e9 k9 q9 f9 l9 hof hk2 k10 k0' k0 hHeld hHeldd hkb hkq5 m3 n3 ll l5 lb hu9
                      go_wp2
                      go_roundw
                      case rel => exact ⟨j + 1, A9, c9, A5, c5, (rs.1 ++ [IntKind.i32.wrap (n2 : Int)], s'), by omega, by go_num, Lib.hid ⟨HS10.out, HO10.out, by rw [List.length_append, HX.out.2.2.1]; rfl, HN.out, Nat.le_trans l' hlr, fun x hx => by
                        rcases List.mem_append.1 hx with hx | hx
                        · exact HX.out.2.2.2.2.2 x hx
                        · rw [List.mem_singleton.1 hx]; exact i32_in _⟩⟩
                      case measure => simp [intOf]; omega
                    ·
                      (try simp only [List.getElem_toArray, List.getElem_cons_zero, List.getElem_cons_succ])
                      go_simp
                      refine HT.out.mono ?_
                      rintro en w5 ⟨rfl, A5, c5, hrd, hA, ho⟩
                      have HS5 := Lib.hid (HSd.out.read (s' := s') hrd hA ho l')
                      have HO5 := Lib.hid (own_off HOd.out ho (fun k hk => by have := (HOd.out.lt k hk).1; have := HSd.out.hU; show ¬ k = p; omega))
                      have hu5 := HS5.out.hU
                      have k0' := HS5.out.cr.blk.cell 0
                      simp only [List.getElem?_cons_zero] at k0'
                      have hkl5 := Lib.hid HS5.out.loc
                      have l5 := hkl5.out.lt
                      have n3 := hkl5.out.cell 3
                      simp only [List.getElem?_cons_zero, List.getElem?_cons_succ] at n3
                      clear hrd hA ho
                      refine hK9.out _ _ (k0') (fun hHeld9 => ?_)
                      clear hK9 K9
                      (try simp only [List.getElem_toArray, List.getElem_cons_zero, List.getElem_cons_succ, Act.put, List.setIfInBounds_toArray, List.set_cons_zero, List.set_cons_succ])
                      refine' wpAnyH_take (i := 7) (v := _) rfl (by kernel_rfl) (by kernel_rfl) (by kernel_rfl) (fun _ _ _ h => h) (Or.inl ⟨by rfl, ?taq15⟩) (by assumption) ?tbq15
                      case taq15 =>
                        intro wS hSw
                        (try dsimp only at hSw)
                        go_simp
                        (try (with_reducible rfl))
                      (try simp only [List.getElem_toArray, List.getElem_cons_zero, List.getElem_cons_succ, Act.put, List.setIfInBounds_toArray, List.set_cons_zero, List.set_cons_succ])
                      refine wpAnyH_ready (rs := [1, 8]) (by kernel_rfl) (by simp) ?_
                      refine AllReadyH.cons rfl (fun K9 hK9 => ?_) (AllReadyH.cons rfl (fun K9 hK9 => ?_) AllReadyH.nil)
                      ·
                        (try simp only [List.getElem_toArray, List.getElem_cons_zero, List.getElem_cons_succ])
                        go_simp
                        refine hK9.out _ _ ((by first | assumption | exact k0')) (fun hHeld9 => ?_)
                        clear hK9 K9
                        (try simp only [List.getElem_toArray, List.getElem_cons_zero, List.getElem_cons_succ, Act.put, List.setIfInBounds_toArray, List.set_cons_zero, List.set_cons_succ])
                        refine wpAnyH_ready (rs := [8]) (by kernel_rfl) (by simp) ?_
                        refine AllReadyH.cons rfl (fun K9 hK9 => ?_) AllReadyH.nil
                        have hkb := (hkl5.out.alloc (.cells #[.int .i32 (IntKind.i32.wrap (n2 : Int))] 21)).cell 3
                        have lb : w.heap.size + 1 < (w5.alloc (.cells #[.int .i32 (IntKind.i32.wrap (n2 : Int))] 21)).heap.size := by simp; omega
                        simp only [List.getElem?_cons_zero, List.getElem?_cons_succ] at hkb
                        have hkq5 : (w5.alloc (.cells #[.int .i32 (IntKind.i32.wrap (n2 : Int))] 21)).cell? ⟨q, 0, none⟩ = some (.pointer (some ⟨p, 0, none⟩)) := by
                          have h1 := (HS5.out.cr.blk.alloc (.cells #[.int .i32 (IntKind.i32.wrap (n2 : Int))] 21)).cell 0
                          simpa using h1
                        (try simp only [List.getElem_toArray, List.getElem_cons_zero, List.getElem_cons_succ])
                        go_simp
                        refine hK9.out _ _ (hkq5) (fun hHeld9 => ?_)
                        clear hK9 K9
                        (try simp only [List.getElem_toArray, List.getElem_cons_zero, List.getElem_cons_succ, Act.put, List.setIfInBounds_toArray, List.set_cons_zero, List.set_cons_succ])
                        refine wpAnyH_ready (rs := [9]) (by kernel_rfl) (by simp) ?_
                        refine AllReadyH.cons rfl (fun K9 hK9 => ?_) AllReadyH.nil
                        (try simp only [List.getElem_toArray, List.getElem_cons_zero, List.getElem_cons_succ])
                        rw [if_pos (by rfl)]
                        refine wp_extend elem_i32k (w5.alloc (.cells #[.int .i32 (IntKind.i32.wrap (n2 : Int))] 21)) _ _ (by rfl) w8.heap.size j _ _ (by rfl) (HO5.out.alloc _) _ _ [.int .i32 (IntKind.i32.wrap (n2 : Int))] (by rfl) (Reads.one_ w5 _ _) (by simp [Value.oneCell']) (by simp only [List.length_cons, List.length_nil, maxLen]; omega) (by simp only [List.length_cons, List.length_nil]; omega) (by simp only [World.size_alloc]; omega) ?_
                        intro A9 c9 w9 hown9 hg9 hf9
                        simp only [List.length_cons, List.length_nil, Nat.zero_add] at hown9 ⊢
                        have HS9 := Lib.hid ((HS5.out.below ((Below.refl _ w5).alloc (Nat.le_refl _) (.cells #[.int .i32 (IntKind.i32.wrap (n2 : Int))] 21))).over (S := fun i => (Value.slice Am j cm).ownBlock = some i) ((Off.refl _ _).grown hg9 (fun k hk => .inl hk)) (fun i hi => (HO5.out.lt i hi).1))
                        have k9 := HS9.out.cr.blk.cell 0
                        have q9 := HS9.out.loc.cell 3
                        have f9 := HS9.out.loc.free 3
                        have l9 := HS9.out.loc.lt
                        simp only [List.getElem?_cons_zero, List.getElem?_cons_succ] at k9 q9
                        refine hK9.out _ _ (k9) (fun hHeld9 => ?_)
                        clear hK9 K9
                        (try simp only [List.getElem_toArray, List.getElem_cons_zero, List.getElem_cons_succ, Act.put, List.setIfInBounds_toArray, List.set_cons_zero, List.set_cons_succ])
                        refine' wpAnyH_take (i := 10) (v := _) rfl (by kernel_rfl) (by kernel_rfl) (by kernel_rfl) (fun _ _ _ h => h) (Or.inl ⟨by rfl, ?taq16⟩) (by assumption) ?tbq16
                        case taq16 =>
                          intro wS hSw
                          (try dsimp only at hSw)
                          go_simp
                          (try (with_reducible rfl))
                        (try simp only [List.getElem_toArray, List.getElem_cons_zero, List.getElem_cons_succ, Act.put, List.setIfInBounds_toArray, List.set_cons_zero, List.set_cons_succ])
                        have hof : Off (fun i => i = w.heap.size + 1) w9 (w9.setCell ⟨w.heap.size + 1, 3, none⟩ (.slice A9 (j + 1) c9)) := (Off.refl (fun i => i = w.heap.size + 1) w9).setCell (p := ⟨w.heap.size + 1, 3, none⟩) (.inl rfl) _
                        have hk2 := HS9.out.loc.put 3 (.slice A9 (j + 1) c9)
                        simp only [List.set_cons_succ, List.set_cons_zero] at hk2
                        have hu9 := HS9.out.hU
                        have HS10 := Lib.hid (HS9.out.turn hof hk2 (HS9.out.ins.off hof (fun g hg _ => by show ¬ g = _; omega) (fun g hg _ => hg)))
                        have e9 : ints .i32 rs.1 ++ [.int .i32 (IntKind.i32.wrap (n2 : Int))] = ints .i32 (rs.1 ++ [IntKind.i32.wrap (n2 : Int)]) := by rw [← ints_append]; rfl
                        rw [e9] at hown9
                        have HO10 := Lib.hid (own_off hown9 hof (fun k hk => by have := (hown9.lt k hk).1; show ¬ k = _; omega))
                        have k10 := HS10.out.cr.blk.cell 0
                        simp only [List.getElem?_cons_zero] at k10
                        refine wpAnyH_ready (rs := [11]) (by kernel_rfl) (by simp) ?_
                        refine AllReadyH.cons rfl (fun K9 hK9 => ?_) AllReadyH.nil
                        (try simp only [List.getElem_toArray, List.getElem_cons_zero, List.getElem_cons_succ])
                        go_simp
                        refine hK9.out _ _ ((by first | exact k10 | exact k10.drew)) (fun hHeld9 => ?_)
                        clear hK9 K9
                        (try simp only [List.getElem_toArray, List.getElem_cons_zero, List.getElem_cons_succ, Act.put, List.setIfInBounds_toArray, List.set_cons_zero, List.set_cons_succ])
                        refine wpAnyH_done (by kernel_rfl) ?_ _
                        clear hown9 hg9 hf9 e9 k9 q9 f9 l9 hof hk2 k10 k0' k0 hHeld hHeldd hkb hkq5 m3 n3 ll l5 lb hu9
                        go_wp2
                        go_roundw
                        case rel => exact ⟨j + 1, A9, c9, A5, c5, (rs.1 ++ [IntKind.i32.wrap (n2 : Int)], s'), by omega, by go_num, Lib.hid ⟨HS10.out, HO10.out, by rw [List.length_append, HX.out.2.2.1]; rfl, HN.out, Nat.le_trans l' hlr, fun x hx => by
                          rcases List.mem_append.1 hx with hx | hx
                          · exact HX.out.2.2.2.2.2 x hx
                          · rw [List.mem_singleton.1 hx]; exact i32_in _⟩⟩
                        case measure => simp [intOf]; omega
                      ·
                        have hkb := (hkl5.out.alloc (.cells #[.int .i32 (IntKind.i32.wrap (n2 : Int))] 21)).cell 3
                        have lb : w.heap.size + 1 < (w5.alloc (.cells #[.int .i32 (IntKind.i32.wrap (n2 : Int))] 21)).heap.size := by simp; omega
                        simp only [List.getElem?_cons_zero, List.getElem?_cons_succ] at hkb
                        have hkq5 : (w5.alloc (.cells #[.int .i32 (IntKind.i32.wrap (n2 : Int))] 21)).cell? ⟨q, 0, none⟩ = some (.pointer (some ⟨p, 0, none⟩)) := by
                          have h1 := (HS5.out.cr.blk.alloc (.cells #[.int .i32 (IntKind.i32.wrap (n2 : Int))] 21)).cell 0
                          simpa using h1
                        (try simp only [List.getElem_toArray, List.getElem_cons_zero, List.getElem_cons_succ])
                        go_simp
                        refine hK9.out _ _ (hkq5) (fun hHeld9 => ?_)
                        clear hK9 K9
                        (try simp only [List.getElem_toArray, List.getElem_cons_zero, List.getElem_cons_succ, Act.put, List.setIfInBounds_toArray, List.set_cons_zero, List.set_cons_succ])
                        refine wpAnyH_ready (rs := [1]) (by kernel_rfl) (by simp) ?_
                        refine AllReadyH.cons rfl (fun K9 hK9 => ?_) AllReadyH.nil
                        (try simp only [List.getElem_toArray, List.getElem_cons_zero, List.getElem_cons_succ])
                        go_simp
                        refine hK9.out _ _ ((by first | exact hkq5 | exact k0')) (fun hHeld9 => ?_)
                        clear hK9 K9
                        (try simp only [List.getElem_toArray, List.getElem_cons_zero, List.getElem_cons_succ, Act.put, List.setIfInBounds_toArray, List.set_cons_zero, List.set_cons_succ])
                        refine wpAnyH_ready (rs := [9]) (by kernel_rfl) (by simp) ?_
                        refine AllReadyH.cons rfl (fun K9 hK9 => ?_) AllReadyH.nil
                        (try simp only [List.getElem_toArray, List.getElem_cons_zero, List.getElem_cons_succ])
                        rw [if_pos (by rfl)]
                        refine wp_extend elem_i32k (w5.alloc (.cells #[.int .i32 (IntKind.i32.wrap (n2 : Int))] 21)) _ _ (by rfl) w8.heap.size j _ _ (by rfl) (HO5.out.alloc _) _ _ [.int .i32 (IntKind.i32.wrap (n2 : Int))] (by rfl) (Reads.one_ w5 _ _) (by simp [Value.oneCell']) (by simp only [List.length_cons, List.length_nil, maxLen]; omega) (by simp only [List.length_cons, List.length_nil]; omega) (by simp only [World.size_alloc]; omega) ?_
                        intro A9 c9 w9 hown9 hg9 hf9
                        simp only [List.length_cons, List.length_nil, Nat.zero_add] at hown9 ⊢
                        have HS9 := Lib.hid ((HS5.out.below ((Below.refl _ w5).alloc (Nat.le_refl _) (.cells #[.int .i32 (IntKind.i32.wrap (n2 : Int))] 21))).over (S := fun i => (Value.slice Am j cm).ownBlock = some i) ((Off.refl _ _).grown hg9 (fun k hk => .inl hk)) (fun i hi => (HO5.out.lt i hi).1))
                        have k9 := HS9.out.cr.blk.cell 0
                        have q9 := HS9.out.loc.cell 3
                        have f9 := HS9.out.loc.free 3
                        have l9 := HS9.out.loc.lt
                        simp only [List.getElem?_cons_zero, List.getElem?_cons_succ] at k9 q9
                        refine hK9.out _ _ (k9) (fun hHeld9 => ?_)
                        clear hK9 K9
                        (try simp only [List.getElem_toArray, List.getElem_cons_zero, List.getElem_cons_succ, Act.put, List.setIfInBounds_toArray, List.set_cons_zero, List.set_cons_succ])
                        refine' wpAnyH_take (i := 10) (v := _) rfl (by kernel_rfl) (by kernel_rfl) (by kernel_rfl) (fun _ _ _ h => h) (Or.inl ⟨by rfl, ?taq17⟩) (by assumption) ?tbq17
                        case taq17 =>
                          intro wS hSw
                          (try dsimp only at hSw)
                          go_simp
                          (try (with_reducible rfl))
                        (try simp only [List.getElem_toArray, List.getElem_cons_zero, List.getElem_cons_succ, Act.put, List.setIfInBounds_toArray, List.set_cons_zero, List.set_cons_succ])
                        have hof : Off (fun i => i = w.heap.size + 1) w9 (w9.setCell ⟨w.heap.size + 1, 3, none⟩ (.slice A9 (j + 1) c9)) := (Off.refl (fun i => i = w.heap.size + 1) w9).setCell (p := ⟨w.heap.size + 1, 3, none⟩) (.inl rfl) _
                        have hk2 := HS9.out.loc.put 3 (.slice A9 (j + 1) c9)
                        simp only [List.set_cons_succ, List.set_cons_zero] at hk2
                        have hu9 := HS9.out.hU
                        have HS10 := Lib.hid (HS9.out.turn hof hk2 (HS9.out.ins.off hof (fun g hg _ => by show ¬ g = _; omega) (fun g hg _ => hg)))
                        have e9 : ints .i32 rs.1 ++ [.int .i32 (IntKind.i32.wrap (n2 : Int))] = ints .i32 (rs.1 ++ [IntKind.i32.wrap (n2 : Int)]) := by rw [← ints_append]; rfl
                        rw [e9] at hown9
                        have HO10 := Lib.hid (own_off hown9 hof (fun k hk => by have := (hown9.lt k hk).1; show ¬ k = _; omega))
                        have k10 := HS10.out.cr.blk.cell 0
                        simp only [List.getElem?_cons_zero] at k10
                        refine wpAnyH_ready (rs := [11]) (by kernel_rfl) (by simp) ?_
                        refine AllReadyH.cons rfl (fun K9 hK9 => ?_) AllReadyH.nil
                        (try simp only [List.getElem_toArray, List.getElem_cons_zero, List.getElem_cons_succ])
                        go_simp
                        refine hK9.out _ _ ((by first | exact k10 | exact k10.drew)) (fun hHeld9 => ?_)
                        clear hK9 K9
                        (try simp only [List.getElem_toArray, List.getElem_cons_zero, List.getElem_cons_succ, Act.put, List.setIfInBounds_toArray, List.set_cons_zero, List.set_cons_succ])
                        refine wpAnyH_done (by kernel_rfl) ?_ _
                        clear hown9 hg9 hf9 e9 k9 q9 f9 l9 hof hk2 k10 k0' k0 hHeld hHeldd hkb hkq5 m3 n3 ll l5 lb hu9
                        go_wp2
                        go_roundw
                        case rel => exact ⟨j + 1, A9, c9, A5, c5, (rs.1 ++ [IntKind.i32.wrap (n2 : Int)], s'), by omega, by go_num, Lib.hid ⟨HS10.out, HO10.out, by rw [List.length_append, HX.out.2.2.1]; rfl, HN.out, Nat.le_trans l' hlr, fun x hx => by
                          rcases List.mem_append.1 hx with hx | hx
                          · exact HX.out.2.2.2.2.2 x hx
                          · rw [List.mem_singleton.1 hx]; exact i32_in _⟩⟩
                        case measure => simp [intOf]; omega
                  · have hjx : j = t3.x.length := by omega
                    have hrr : rs = R4 := by have h1 := HX.out.2.2.2.1; rw [hjx, Nat.sub_self] at h1; exact h1
                    subst hrr
                    obtain ⟨ml, r4⟩ := rs
                    have hml := HX.out.2.2.1
                    dsimp only at hml HX HTT
                    have HML := Lib.hid hml
                    have HPS := Lib.hid HX.out.1
                    have HOM := Lib.hid HX.out.2.1
                    have HMB : Hid (∀ x ∈ ml, -2147483648 ≤ x ∧ x ≤ 2147483647) := Lib.hid HX.out.2.2.2.2.2
                    have hl4 := HX.out.2.2.2.2.1
                    have hu8 := HPS.out.hU
                    have hjx2 := Lib.hid hjx
                    have tlt : decide ((j : Int) < (t3.x.length : Int)) = false := decide_eq_false (by omega)
                    have tlt' : decide (j < t3.x.length) = false := decide_eq_false (by omega)
                    have tlt2 : t3.x.length ≤ j := by omega
                    have hpm := HPS.out.more (U' := wr.heap.size) hu8.2 (Nat.le_refl _)
                    have hin : ParV.In (fun g => w.heap.size + 2 ≤ g ∧ g < wr.heap.size) wr (⟨.slice Au m cu, .slice Ax t3.x.length cx, .slice Am j cm, .slice none 0 0, .slice none 0 0, ⟨dl, t3.e, t3.x, ml, [], 0, []⟩⟩ : ParV) := ⟨hpm.ins.wd, hpm.ins.wx, RowS.of_own HOM.out (fun k hk => by have := HOM.out.lt k hk; omega), RowS.nil_ _ _, RowS.nil_ _ _, ⟨HDB, HX3, hx3c.1, hx3c.2, HMB, Lib.hid (by simp), Lib.hid (by simp), by simp, by simp, by unfold lenP; have := HDL.out; simp only [List.length_nil]; omega⟩⟩
                    have HP4 := Lib.hid (hpm.turn (Off.refl _ _) hpm.loc hin)
                    clear hlt HX HR4 hpm hin HOM HPS hml hjx
                    have hkl := Lib.hid HP4.out.loc
                    have ll := hkl.out.lt
                    have m0 := hkl.out.cell 0
                    have m1 := hkl.out.cell 1
                    have m2 := hkl.out.cell 2
                    have m3 := hkl.out.cell 3
                    have m4 := hkl.out.cell 4
                    have m5 := hkl.out.cell 5
                    have m6 := hkl.out.cell 6
                    simp only [List.getElem?_cons_zero, List.getElem?_cons_succ] at m0 m1 m2 m3 m4 m5 m6
                    obtain ⟨okm, hokm⟩ : ∃ okm, movesB { zeroC with wx := t3.x, m := ml } = okm := ⟨_, rfl⟩
                    rw [hokm] at HTT
                    have HMV := Lib.hid (moves_any ⟨.slice Au m cu, .slice Ax t3.x.length cx, .slice Am j cm, .slice none 0 0, .slice none 0 0, ⟨dl, t3.e, t3.x, ml, [], 0, []⟩⟩ wr wr.heap.size (Nat.le_refl _) HP4.out.ins.ok okm hokm)
                    dsimp only at HMV
                    clear hokm
                    go_wp2_with fail
                    refine HMV.out.mono ?_
                    rintro en w9 ⟨rfl, hb9⟩
                    have HP5 := Lib.hid (HP4.out.below hb9)
                    clear hb9 HP4 HMV m0 m1 m2 m3 m4 m5 m6 hkl ll
                    go_wp2_with fail
                    obtain ⟨z4, hz'⟩ : ∃ z', chk ⟨t3.z.e, r4⟩ okm = z' := ⟨_, rfl⟩
                    refine (check_any w9 q p A' c' ⟨t3.z.e, r4⟩ okm HP5.out.cr z4 hz').mono ?_
                    rintro en w10 ⟨rfl, hc6, ho6⟩
                    have HP6 := Lib.hid (HP5.out.check hc6 ho6 (by rw [← hz']; rfl))
                    have HZ_z4 := Lib.hid hz'
                    clear hz' hc6 ho6 HP5
                    rw [HZ_z4.out] at HTT
                    have HZS4 : Hid (z4.s = r4) := Lib.hid (by rw [← HZ_z4.out]; rfl)
                    by_cases he4 : z4.e = 0
                    · have te4 : decide (z4.e = 0) = true := decide_eq_true he4
                      obtain ⟨s5, hs5⟩ : ∃ s', rds z4.s 2 = s' := ⟨_, rfl⟩
                      obtain ⟨n5, hn5⟩ : ∃ n2, deB (rdt z4.s 2) = n2 := ⟨_, rfl⟩
                      have HTT : Hid (t = decP6 dl t3 ml (chk ⟨z4.e, s5⟩ (decide (0 < sizeI [(n5 : Int)]))) (n5 : Int)) := Lib.hid (by rw [HTT.out]; unfold decP5; rw [if_neg (by omega), hs5]; unfold num2; rw [hn5])
                      have HE4 := Lib.hid he4
                      have hl5 : s5.1.length ≤ z4.s.1.length := by rw [← hs5]; exact rds_len _ _
                      have hl45 : z4.s.1.length ≤ 140737488351232 := by rw [HZS4.out]; omega
                      have b5 : n5 < 65536 := by rw [← hn5]; exact deB_u16 _
                      have HT := Lib.hid (ru16_any w10 p A' c' z4.s.1 z4.s.2 HP6.out.cr.rd (by omega))
                      rw [show deB (takeOut z4.s.1 z4.s.2 2) = n5 from hn5, show takeLeft z4.s.1 z4.s.2 2 = s5.1 by rw [← hs5]; rfl, show takeErr z4.s.1 z4.s.2 2 = s5.2 by rw [← hs5]; rfl] at HT
                      have hkq := Lib.hid HP6.out.cr.blk
                      have lq := hkq.out.lt
                      have k0 := hkq.out.cell 0
                      have k1 := hkq.out.cell 1
                      simp only [List.getElem?_cons_zero, List.getElem?_cons_succ] at k0 k1
                      clear hs5 hn5 he4
                      go_wp2_with fail
                      refine HT.out.mono ?_
                      rintro en w11 ⟨rfl, A5, c5, hrd, hA, ho⟩
                      have HP7 := Lib.hid (HP6.out.read (s' := s5) hrd hA ho hl5)
                      have hkb := Blk.fresh w11 3 [.int .i64 (n5 : Int)]
                      have hba := (Below.refl w11.heap.size w11).alloc (Nat.le_refl _) (.cells #[.int .i64 (n5 : Int)] 3)
                      have HP8 := Lib.hid (HP7.out.below hba)
                      have HRI := Lib.hid (Reads.one_ w11 3 (.int .i64 (n5 : Int)))
                      have hu7 := HP7.out.hU
                      have hlqq := HP7.out.lq
                      have HKB := Lib.hid hkb
                      have h58 : w.heap.size + 2 ≤ w11.heap.size := by omega
                      clear hrd hA ho HT k0 k1 te4 hkq lq hkb hba HP6
                      have HN5 : Hid (∀ x ∈ [(n5 : Int)], -9223372036854775808 ≤ x ∧ x ≤ 9223372036854775807) := Lib.hid (fun x hx => by rw [List.mem_singleton.1 hx]; omega)
                      go_wp2_with fail
                      refine (shapemay_any [(n5 : Int)] _ _ _ HRI.out HN5.out).mono ?_
                      rintro en w' ⟨rfl, rfl⟩
                      obtain ⟨ok5, hok5⟩ : ∃ ok5, decide (0 < sizeI [(n5 : Int)]) = ok5 := ⟨_, rfl⟩
                      rw [hok5] at HTT
                      (try rw [hok5])
                      clear HRI HP7 hok5
                      generalize (w11.alloc (.cells #[.int .i64 (n5 : Int)] 3)) = w12 at HP8 HKB ⊢
                      generalize w11.heap.size = g5 at HKB h58 ⊢
                      go_wp2_with fail
                      obtain ⟨z5, hz'⟩ : ∃ z', chk ⟨z4.e, s5⟩ ok5 = z' := ⟨_, rfl⟩
                      refine (check_any w12 q p A5 c5 ⟨z4.e, s5⟩ ok5 HP8.out.cr z5 hz').mono ?_
                      rintro en w13 ⟨rfl, hc6, ho6⟩
                      have HP9 := Lib.hid (HP8.out.check hc6 ho6 (by rw [← hz']; rfl))
                      have HZ_z5 := Lib.hid hz'
                      have HKB2 := Lib.hid (HKB.out.off ho6 (by show ¬ g5 = q; omega))
                      clear hz' hc6 ho6 HP8
                      rw [HZ_z5.out] at HTT
                      have HZS5 : Hid (z5.s = s5) := Lib.hid (by rw [← HZ_z5.out]; rfl)
                      clear HKB
                      by_cases he5 : z5.e = 0
                      · have te5 : decide (z5.e = 0) = true := decide_eq_true he5
                        obtain ⟨t6, ht6⟩ : ∃ t6, decT z5 [(n5 : Int)] = t6 := ⟨_, rfl⟩
                        have HTT : Hid (t = ⟨t6.z, ⟨dl, t3.e, t3.x, ml, [(n5 : Int)], t6.e, t6.x⟩⟩) := Lib.hid (by rw [HTT.out]; unfold decP6; rw [if_neg (by omega), ht6])
                        have HT6 := Lib.hid ht6
                        have hx6 := decT_x z5 [(n5 : Int)]
                        have hl6 := decT_len z5 [(n5 : Int)]
                        rw [ht6] at hx6 hl6
                        obtain ⟨hx6a, hx6b, hx6c⟩ := hx6
                        have HX6 := Lib.hid hx6b
                        have HRB := Lib.hid (RowS.of_blk (S := fun g => g ≠ p ∧ g ≠ q) HKB2.out (n := 1) rfl (by decide) (by omega))
                        clear ht6 he5 hx6b
                        go_wp2_with fail
                        refine (rtensor_any w13 q p A5 c5 z5 HP9.out.cr _ [(n5 : Int)] HRB.out HN5.out t6 HT6.out).mono ?_
                        rintro en w14 ⟨A7', c7', xv', rfl, howx, hcr, hsa, ho⟩
                        obtain ⟨Ay, cy, rfl⟩ := own_form howx
                        have hu13 := HP9.out.hU
                        have HP10 := Lib.hid ((HP9.out.step hcr ho hsa hl6).more (U' := w14.heap.size) (by have := ho.size; omega) (Nat.le_refl _))
                        have HKB3 := Lib.hid (HKB2.out.off ho (by show ¬ (_ ∨ _); omega))
                        have HOX := Lib.hid howx
                        clear howx hcr hsa ho HP9 HRB HKB2
                        have hkl := Lib.hid HP10.out.loc
                        have ll := hkl.out.lt
                        have g4 := hkl.out.free 4
                        have g5' := hkl.out.free 5
                        have g6 := hkl.out.free 6
                        have m4 := hkl.out.cell 4
                        have m5 := hkl.out.cell 5
                        have m6 := hkl.out.cell 6
                        simp only [List.getElem?_cons_zero, List.getElem?_cons_succ] at m4 m5 m6
                        go_upto_region 24 with fail
                        clear m4 m5 m6 g4 g5' g6 ll
                        have hk3 := ((hkl.out.put 4 (.slice (some ⟨g5, 0, none⟩) 1 1)).put 5 (.int .i64 t6.e)).put 6 (.slice Ay t6.x.length cy)
                        have hof : Off (fun i => i = w.heap.size + 1) w14 (((w14.setCell ⟨w.heap.size + 1, 4, none⟩ (.slice (some ⟨g5, 0, none⟩) 1 1)).setCell ⟨w.heap.size + 1, 5, none⟩ (.int .i64 t6.e)).setCell ⟨w.heap.size + 1, 6, none⟩ (.slice Ay t6.x.length cy)) := (((Off.refl (fun i => i = w.heap.size + 1) w14).setCell (p := ⟨w.heap.size + 1, 4, none⟩) (.inl rfl) _).setCell (p := ⟨w.heap.size + 1, 5, none⟩) (.inl rfl) _).setCell (p := ⟨w.heap.size + 1, 6, none⟩) (.inl rfl) _
                        simp only [List.set_cons_succ, List.set_cons_zero] at hk3
                        have r7 := HKB3.out.off hof (by show ¬ g5 = w.heap.size + 1; omega)
                        have x7 := own_off HOX.out hof (fun k hk => by have := (HOX.out.lt k hk).1; show ¬ k = w.heap.size + 1; omega)
                        have hz7 : w14.heap.size = (((w14.setCell ⟨w.heap.size + 1, 4, none⟩ (.slice (some ⟨g5, 0, none⟩) 1 1)).setCell ⟨w.heap.size + 1, 5, none⟩ (.int .i64 t6.e)).setCell ⟨w.heap.size + 1, 6, none⟩ (.slice Ay t6.x.length cy)).heap.size := by simp
                        have hin4 := HP10.out.ins.off hof (fun g hg _ => by show ¬ g = w.heap.size + 1; omega) (fun g hg _ => hg)
                        have hin : ParV.In (fun g => w.heap.size + 2 ≤ g ∧ g < w14.heap.size) (((w14.setCell ⟨w.heap.size + 1, 4, none⟩ (.slice (some ⟨g5, 0, none⟩) 1 1)).setCell ⟨w.heap.size + 1, 5, none⟩ (.int .i64 t6.e)).setCell ⟨w.heap.size + 1, 6, none⟩ (.slice Ay t6.x.length cy)) (⟨.slice Au m cu, .slice Ax t3.x.length cx, .slice Am j cm, .slice (some ⟨g5, 0, none⟩) 1 1, .slice Ay t6.x.length cy, ⟨dl, t3.e, t3.x, ml, [(n5 : Int)], t6.e, t6.x⟩⟩ : ParV) := ⟨hin4.wd, hin4.wx, hin4.m, RowS.of_blk r7 (n := 1) rfl (by decide) (by have := HKB3.out.lt; omega), RowS.of_own x7 (fun k hk => by have := x7.lt k hk; omega), ⟨HDB, HX3, hx3c.1, hx3c.2, HMB, HN5, HX6, hx6c.1, hx6c.2, by unfold lenP; have := HDL.out; have := HML.out; simp only [List.length_nil, List.length_cons]; omega⟩⟩
                        have HP11 := Lib.hid (HP10.out.turn hof hk3 hin)
                        clear hk3 hof r7 x7 hin hin4 hkl HP10 HKB3 HOX hz7
                        generalize (((w14.setCell ⟨w.heap.size + 1, 4, none⟩ (.slice (some ⟨g5, 0, none⟩) 1 1)).setCell ⟨w.heap.size + 1, 5, none⟩ (.int .i64 t6.e)).setCell ⟨w.heap.size + 1, 6, none⟩ (.slice Ay t6.x.length cy)) = w15 at HP11 ⊢
                        have hkl := Lib.hid HP11.out.loc
                        have hkr := Lib.hid HP11.out.res
                        have ll := hkl.out.lt
                        have lr := hkr.out.lt
                        have f0 := hkr.out.free 0
                        have f1 := hkr.out.free 1
                        have f2 := hkr.out.free 2
                        have f3 := hkr.out.free 3
                        have f4 := hkr.out.free 4
                        have f5 := hkr.out.free 5
                        have f6 := hkr.out.free 6
                        unfold zcells at hkr
                        have m0 := hkl.out.cell 0
                        have m1 := hkl.out.cell 1
                        have m2 := hkl.out.cell 2
                        have m3 := hkl.out.cell 3
                        have m4 := hkl.out.cell 4
                        have m5 := hkl.out.cell 5
                        have m6 := hkl.out.cell 6
                        simp only [List.getElem?_cons_zero, List.getElem?_cons_succ] at m0 m1 m2 m3 m4 m5 m6
                        have r0 := hkr.out.cell 0
                        have r1 := hkr.out.cell 1
                        have r2 := hkr.out.cell 2
                        have r3 := hkr.out.cell 3
                        have r4 := hkr.out.cell 4
                        have r5 := hkr.out.cell 5
                        have r6 := hkr.out.cell 6
                        simp only [List.getElem?_cons_zero, List.getElem?_cons_succ] at r0 r1 r2 r3 r4 r5 r6
                        go_wp2_with fail
                        clear f0 f1 f2 f3 f4 f5 f6 m0 m1 m2 m3 m4 m5 m6 r0 r1 r2 r3 r4 r5 r6 hkl hkr
                        have hq := HP11.out.fin (.slice Au m cu) (.int .i64 t3.e) (.slice Ax t3.x.length cx) (.slice Am j cm) (.slice (some ⟨g5, 0, none⟩) 1 1) (.int .i64 t6.e) (.slice Ay t6.x.length cy)
                        unfold seven at hq
                        generalize (((((((w15.setCell ⟨w.heap.size, 0, none⟩ (.slice Au m cu)).setCell ⟨w.heap.size, 1, none⟩ (.int .i64 t3.e)).setCell ⟨w.heap.size, 2, none⟩ (.slice Ax t3.x.length cx)).setCell ⟨w.heap.size, 3, none⟩ (.slice Am j cm)).setCell ⟨w.heap.size, 4, none⟩ (.slice (some ⟨g5, 0, none⟩) 1 1)).setCell ⟨w.heap.size, 5, none⟩ (.int .i64 t6.e)).setCell ⟨w.heap.size, 6, none⟩ (.slice Ay t6.x.length cy)) = W at hq ⊢
                        obtain ⟨hqb, hqc, hqi, hqo⟩ := hq
                        have hqb := Lib.hid hqb
                        have p0 := hqb.out.cell 0
                        have p1 := hqb.out.cell 1
                        have p2 := hqb.out.cell 2
                        have p3 := hqb.out.cell 3
                        have p4 := hqb.out.cell 4
                        have p5 := hqb.out.cell 5
                        have p6 := hqb.out.cell 6
                        simp only [List.getElem?_cons_zero, List.getElem?_cons_succ] at p0 p1 p2 p3 p4 p5 p6
                        refine bodyPost_ret (v := .agg #[.slice Au m cu, .int .i64 t3.e, .slice Ax t3.x.length cx, .slice Am j cm, .slice (some ⟨g5, 0, none⟩) 1 1, .int .i64 t6.e, .slice Ay t6.x.length cy]) ?_ rfl ?_
                        · simp [results, Try.results29, asAddr, Result.andThen, p0, p1, p2, p3, p4, p5, p6, go_sem]
                        · rw [HTT.out]
                          exact ⟨A7', c7', ⟨.slice Au m cu, .slice Ax t3.x.length cx, .slice Am j cm, .slice (some ⟨g5, 0, none⟩) 1 1, .slice Ay t6.x.length cy, ⟨dl, t3.e, t3.x, ml, [(n5 : Int)], t6.e, t6.x⟩⟩, rfl, hqi, fun _ => rfl, hqc, HP11.out.sa, hqo⟩
                      · have te5 : decide (z5.e = 0) = false := decide_eq_false he5
                        have HTT : Hid (t = ⟨z5, zeroC⟩) := Lib.hid (by rw [HTT.out]; unfold decP6; rw [if_pos he5])
                        have HNE := Lib.hid he5
                        clear he5
                        have hkl := Lib.hid HP9.out.loc
                        have hkr := Lib.hid HP9.out.res
                        have ll := hkl.out.lt
                        have lr := hkr.out.lt
                        have f0 := hkr.out.free 0
                        have f1 := hkr.out.free 1
                        have f2 := hkr.out.free 2
                        have f3 := hkr.out.free 3
                        have f4 := hkr.out.free 4
                        have f5 := hkr.out.free 5
                        have f6 := hkr.out.free 6
                        unfold zcells at hkr
                        have m0 := hkl.out.cell 0
                        have m1 := hkl.out.cell 1
                        have m2 := hkl.out.cell 2
                        have m3 := hkl.out.cell 3
                        have m4 := hkl.out.cell 4
                        have m5 := hkl.out.cell 5
                        have m6 := hkl.out.cell 6
                        simp only [List.getElem?_cons_zero, List.getElem?_cons_succ] at m0 m1 m2 m3 m4 m5 m6
                        have r0 := hkr.out.cell 0
                        have r1 := hkr.out.cell 1
                        have r2 := hkr.out.cell 2
                        have r3 := hkr.out.cell 3
                        have r4 := hkr.out.cell 4
                        have r5 := hkr.out.cell 5
                        have r6 := hkr.out.cell 6
                        simp only [List.getElem?_cons_zero, List.getElem?_cons_succ] at r0 r1 r2 r3 r4 r5 r6
                        go_wp2_with fail
                        clear f0 f1 f2 f3 f4 f5 f6 m0 m1 m2 m3 m4 m5 m6 r0 r1 r2 r3 r4 r5 r6 hkl hkr
                        have hq := HP9.out.fin (.slice Au m cu) (.int .i64 t3.e) (.slice Ax t3.x.length cx) (.slice Am j cm) (.slice none 0 0) (.int .i64 0) (.slice none 0 0)
                        unfold seven at hq
                        generalize (((((((w13.setCell ⟨w.heap.size, 0, none⟩ (.slice Au m cu)).setCell ⟨w.heap.size, 1, none⟩ (.int .i64 t3.e)).setCell ⟨w.heap.size, 2, none⟩ (.slice Ax t3.x.length cx)).setCell ⟨w.heap.size, 3, none⟩ (.slice Am j cm)).setCell ⟨w.heap.size, 4, none⟩ (.slice none 0 0)).setCell ⟨w.heap.size, 5, none⟩ (.int .i64 0)).setCell ⟨w.heap.size, 6, none⟩ (.slice none 0 0)) = W at hq ⊢
                        obtain ⟨hqb, hqc, hqi, hqo⟩ := hq
                        have hqb := Lib.hid hqb
                        have p0 := hqb.out.cell 0
                        have p1 := hqb.out.cell 1
                        have p2 := hqb.out.cell 2
                        have p3 := hqb.out.cell 3
                        have p4 := hqb.out.cell 4
                        have p5 := hqb.out.cell 5
                        have p6 := hqb.out.cell 6
                        simp only [List.getElem?_cons_zero, List.getElem?_cons_succ] at p0 p1 p2 p3 p4 p5 p6
                        refine bodyPost_ret (v := .agg #[.slice Au m cu, .int .i64 t3.e, .slice Ax t3.x.length cx, .slice Am j cm, .slice none 0 0, .int .i64 0, .slice none 0 0]) ?_ rfl ?_
                        · simp [results, Try.results29, asAddr, Result.andThen, p0, p1, p2, p3, p4, p5, p6, go_sem]
                        · rw [HTT.out]
                          exact ⟨A5, c5, ⟨.slice Au m cu, .slice Ax t3.x.length cx, .slice Am j cm, .slice none 0 0, .slice none 0 0, ⟨dl, t3.e, t3.x, ml, [], 0, []⟩⟩, rfl, hqi, fun h => absurd h HNE.out, hqc, HP9.out.sa, hqo⟩
                    · have te4 : decide (z4.e = 0) = false := decide_eq_false he4
                      have HTT : Hid (t = ⟨z4, zeroC⟩) := Lib.hid (by rw [HTT.out]; unfold decP5; rw [if_pos he4])
                      have HNE := Lib.hid he4
                      clear he4
                      have hkl := Lib.hid HP6.out.loc
                      have hkr := Lib.hid HP6.out.res
                      have ll := hkl.out.lt
                      have lr := hkr.out.lt
                      have f0 := hkr.out.free 0
                      have f1 := hkr.out.free 1
                      have f2 := hkr.out.free 2
                      have f3 := hkr.out.free 3
                      have f4 := hkr.out.free 4
                      have f5 := hkr.out.free 5
                      have f6 := hkr.out.free 6
                      unfold zcells at hkr
                      have m0 := hkl.out.cell 0
                      have m1 := hkl.out.cell 1
                      have m2 := hkl.out.cell 2
                      have m3 := hkl.out.cell 3
                      have m4 := hkl.out.cell 4
                      have m5 := hkl.out.cell 5
                      have m6 := hkl.out.cell 6
                      simp only [List.getElem?_cons_zero, List.getElem?_cons_succ] at m0 m1 m2 m3 m4 m5 m6
                      have r0 := hkr.out.cell 0
                      have r1 := hkr.out.cell 1
                      have r2 := hkr.out.cell 2
                      have r3 := hkr.out.cell 3
                      have r4 := hkr.out.cell 4
                      have r5 := hkr.out.cell 5
                      have r6 := hkr.out.cell 6
                      simp only [List.getElem?_cons_zero, List.getElem?_cons_succ] at r0 r1 r2 r3 r4 r5 r6
                      go_wp2_with fail
                      clear f0 f1 f2 f3 f4 f5 f6 m0 m1 m2 m3 m4 m5 m6 r0 r1 r2 r3 r4 r5 r6 hkl hkr
                      have hq := HP6.out.fin (.slice Au m cu) (.int .i64 t3.e) (.slice Ax t3.x.length cx) (.slice Am j cm) (.slice none 0 0) (.int .i64 0) (.slice none 0 0)
                      unfold seven at hq
                      generalize (((((((w10.setCell ⟨w.heap.size, 0, none⟩ (.slice Au m cu)).setCell ⟨w.heap.size, 1, none⟩ (.int .i64 t3.e)).setCell ⟨w.heap.size, 2, none⟩ (.slice Ax t3.x.length cx)).setCell ⟨w.heap.size, 3, none⟩ (.slice Am j cm)).setCell ⟨w.heap.size, 4, none⟩ (.slice none 0 0)).setCell ⟨w.heap.size, 5, none⟩ (.int .i64 0)).setCell ⟨w.heap.size, 6, none⟩ (.slice none 0 0)) = W at hq ⊢
                      obtain ⟨hqb, hqc, hqi, hqo⟩ := hq
                      have hqb := Lib.hid hqb
                      have p0 := hqb.out.cell 0
                      have p1 := hqb.out.cell 1
                      have p2 := hqb.out.cell 2
                      have p3 := hqb.out.cell 3
                      have p4 := hqb.out.cell 4
                      have p5 := hqb.out.cell 5
                      have p6 := hqb.out.cell 6
                      simp only [List.getElem?_cons_zero, List.getElem?_cons_succ] at p0 p1 p2 p3 p4 p5 p6
                      refine bodyPost_ret (v := .agg #[.slice Au m cu, .int .i64 t3.e, .slice Ax t3.x.length cx, .slice Am j cm, .slice none 0 0, .int .i64 0, .slice none 0 0]) ?_ rfl ?_
                      · simp [results, Try.results29, asAddr, Result.andThen, p0, p1, p2, p3, p4, p5, p6, go_sem]
                      · rw [HTT.out]
                        exact ⟨A', c', ⟨.slice Au m cu, .slice Ax t3.x.length cx, .slice Am j cm, .slice none 0 0, .slice none 0 0, ⟨dl, t3.e, t3.x, ml, [], 0, []⟩⟩, rfl, hqi, fun h => absurd h HNE.out, hqc, HP6.out.sa, hqo⟩
              · have te3 : (t3.z.e != 0) = true := by simpa using he3
                have HTT : Hid (t = ⟨t3.z, zeroC⟩) := Lib.hid (by rw [HTT.out]; unfold decP4; rw [if_pos he3])
                have HNE := Lib.hid he3
                clear he3
                have hkl := Lib.hid HS6.out.loc
                have hkr := Lib.hid HS6.out.res
                have ll := hkl.out.lt
                have lr := hkr.out.lt
                have f0 := hkr.out.free 0
                have f1 := hkr.out.free 1
                have f2 := hkr.out.free 2
                have f3 := hkr.out.free 3
                have f4 := hkr.out.free 4
                have f5 := hkr.out.free 5
                have f6 := hkr.out.free 6
                unfold zcells at hkr
                have m0 := hkl.out.cell 0
                have m1 := hkl.out.cell 1
                have m2 := hkl.out.cell 2
                have m3 := hkl.out.cell 3
                have m4 := hkl.out.cell 4
                have m5 := hkl.out.cell 5
                have m6 := hkl.out.cell 6
                simp only [List.getElem?_cons_zero, List.getElem?_cons_succ] at m0 m1 m2 m3 m4 m5 m6
                have r0 := hkr.out.cell 0
                have r1 := hkr.out.cell 1
                have r2 := hkr.out.cell 2
                have r3 := hkr.out.cell 3
                have r4 := hkr.out.cell 4
                have r5 := hkr.out.cell 5
                have r6 := hkr.out.cell 6
                simp only [List.getElem?_cons_zero, List.getElem?_cons_succ] at r0 r1 r2 r3 r4 r5 r6
                go_wp2_with fail
                clear f0 f1 f2 f3 f4 f5 f6 m0 m1 m2 m3 m4 m5 m6 r0 r1 r2 r3 r4 r5 r6 hkl hkr
                have hq := HS6.out.fin (.slice Au m cu) (.int .i64 t3.e) (.slice Ax t3.x.length cx) (.slice none 0 0) (.slice none 0 0) (.int .i64 0) (.slice none 0 0)
                unfold seven at hq
                generalize (((((((w8.setCell ⟨w.heap.size, 0, none⟩ (.slice Au m cu)).setCell ⟨w.heap.size, 1, none⟩ (.int .i64 t3.e)).setCell ⟨w.heap.size, 2, none⟩ (.slice Ax t3.x.length cx)).setCell ⟨w.heap.size, 3, none⟩ (.slice none 0 0)).setCell ⟨w.heap.size, 4, none⟩ (.slice none 0 0)).setCell ⟨w.heap.size, 5, none⟩ (.int .i64 0)).setCell ⟨w.heap.size, 6, none⟩ (.slice none 0 0)) = W at hq ⊢
                obtain ⟨hqb, hqc, hqi, hqo⟩ := hq
                have hqb := Lib.hid hqb
                have p0 := hqb.out.cell 0
                have p1 := hqb.out.cell 1
                have p2 := hqb.out.cell 2
                have p3 := hqb.out.cell 3
                have p4 := hqb.out.cell 4
                have p5 := hqb.out.cell 5
                have p6 := hqb.out.cell 6
                simp only [List.getElem?_cons_zero, List.getElem?_cons_succ] at p0 p1 p2 p3 p4 p5 p6
                refine bodyPost_ret (v := .agg #[.slice Au m cu, .int .i64 t3.e, .slice Ax t3.x.length cx, .slice none 0 0, .slice none 0 0, .int .i64 0, .slice none 0 0]) ?_ rfl ?_
                · simp [results, Try.results29, asAddr, Result.andThen, p0, p1, p2, p3, p4, p5, p6, go_sem]
                · rw [HTT.out]
                  exact ⟨A7, c7, ⟨.slice Au m cu, .slice Ax t3.x.length cx, .slice none 0 0, .slice none 0 0, .slice none 0 0, ⟨dl, t3.e, t3.x, [], [], 0, []⟩⟩, rfl, hqi, fun h => absurd h HNE.out, hqc, HS6.out.sa, hqo⟩
            · have te2 : decide (z2.e = 0) = false := decide_eq_false he2
              have HTT : Hid (t = ⟨z2, zeroC⟩) := Lib.hid (by rw [HTT.out]; unfold decP3; rw [if_pos he2])
              clear he2
              have hkl := Lib.hid HS4.out.loc
              have hkr := Lib.hid HS4.out.res
              have ll := hkl.out.lt
              have lr := hkr.out.lt
              have f0 := hkr.out.free 0
              have f1 := hkr.out.free 1
              have f2 := hkr.out.free 2
              have f3 := hkr.out.free 3
              have f4 := hkr.out.free 4
              have f5 := hkr.out.free 5
              have f6 := hkr.out.free 6
              unfold zcells at hkl
              unfold zcells at hkr
              have m0 := hkl.out.cell 0
              have m1 := hkl.out.cell 1
              have m2 := hkl.out.cell 2
              have m3 := hkl.out.cell 3
              have m4 := hkl.out.cell 4
              have m5 := hkl.out.cell 5
              have m6 := hkl.out.cell 6
              simp only [List.getElem?_cons_zero, List.getElem?_cons_succ] at m0 m1 m2 m3 m4 m5 m6
              have r0 := hkr.out.cell 0
              have r1 := hkr.out.cell 1
              have r2 := hkr.out.cell 2
              have r3 := hkr.out.cell 3
              have r4 := hkr.out.cell 4
              have r5 := hkr.out.cell 5
              have r6 := hkr.out.cell 6
              simp only [List.getElem?_cons_zero, List.getElem?_cons_succ] at r0 r1 r2 r3 r4 r5 r6
              go_wp2_with fail
              clear f0 f1 f2 f3 f4 f5 f6 m0 m1 m2 m3 m4 m5 m6 r0 r1 r2 r3 r4 r5 r6 hkl hkr
              have hq := HS4.out.fin (.slice none 0 0) (.int .i64 0) (.slice none 0 0) (.slice none 0 0) (.slice none 0 0) (.int .i64 0) (.slice none 0 0)
              unfold seven at hq
              generalize (((((((w6.setCell ⟨w.heap.size, 0, none⟩ (.slice none 0 0)).setCell ⟨w.heap.size, 1, none⟩ (.int .i64 0)).setCell ⟨w.heap.size, 2, none⟩ (.slice none 0 0)).setCell ⟨w.heap.size, 3, none⟩ (.slice none 0 0)).setCell ⟨w.heap.size, 4, none⟩ (.slice none 0 0)).setCell ⟨w.heap.size, 5, none⟩ (.int .i64 0)).setCell ⟨w.heap.size, 6, none⟩ (.slice none 0 0)) = W at hq ⊢
              obtain ⟨hqb, hqc, hqi, hqo⟩ := hq
              have hqb := Lib.hid hqb
              have p0 := hqb.out.cell 0
              have p1 := hqb.out.cell 1
              have p2 := hqb.out.cell 2
              have p3 := hqb.out.cell 3
              have p4 := hqb.out.cell 4
              have p5 := hqb.out.cell 5
              have p6 := hqb.out.cell 6
              simp only [List.getElem?_cons_zero, List.getElem?_cons_succ] at p0 p1 p2 p3 p4 p5 p6
              refine bodyPost_ret (v := .agg #[.slice none 0 0, .int .i64 0, .slice none 0 0, .slice none 0 0, .slice none 0 0, .int .i64 0, .slice none 0 0]) ?_ rfl ?_
              · simp [results, Try.results29, asAddr, Result.andThen, p0, p1, p2, p3, p4, p5, p6, go_sem]
              · rw [HTT.out]
                exact ⟨A', c', zeroV, rfl, hqi, fun _ => rfl, hqc, HS4.out.sa, hqo⟩
    · have te1 : decide (z1.e = 0) = false := decide_eq_false he1
      have HTT : Hid (t = ⟨z1, zeroC⟩) := Lib.hid (by rw [HTT.out]; unfold decP2; rw [if_pos (.inl he1)])
      clear he1
      have hkl := Lib.hid HS3.out.loc
      have hkr := Lib.hid HS3.out.res
      have ll := hkl.out.lt
      have lr := hkr.out.lt
      have f0 := hkr.out.free 0
      have f1 := hkr.out.free 1
      have f2 := hkr.out.free 2
      have f3 := hkr.out.free 3
      have f4 := hkr.out.free 4
      have f5 := hkr.out.free 5
      have f6 := hkr.out.free 6
      unfold zcells at hkl
      unfold zcells at hkr
      have m0 := hkl.out.cell 0
      have m1 := hkl.out.cell 1
      have m2 := hkl.out.cell 2
      have m3 := hkl.out.cell 3
      have m4 := hkl.out.cell 4
      have m5 := hkl.out.cell 5
      have m6 := hkl.out.cell 6
      simp only [List.getElem?_cons_zero, List.getElem?_cons_succ] at m0 m1 m2 m3 m4 m5 m6
      have r0 := hkr.out.cell 0
      have r1 := hkr.out.cell 1
      have r2 := hkr.out.cell 2
      have r3 := hkr.out.cell 3
      have r4 := hkr.out.cell 4
      have r5 := hkr.out.cell 5
      have r6 := hkr.out.cell 6
      simp only [List.getElem?_cons_zero, List.getElem?_cons_succ] at r0 r1 r2 r3 r4 r5 r6
      go_wp2_with fail
      clear f0 f1 f2 f3 f4 f5 f6 m0 m1 m2 m3 m4 m5 m6 r0 r1 r2 r3 r4 r5 r6 hkl hkr
      have hq := HS3.out.fin (.slice none 0 0) (.int .i64 0) (.slice none 0 0) (.slice none 0 0) (.slice none 0 0) (.int .i64 0) (.slice none 0 0)
      unfold seven at hq
      generalize (((((((w3.setCell ⟨w.heap.size, 0, none⟩ (.slice none 0 0)).setCell ⟨w.heap.size, 1, none⟩ (.int .i64 0)).setCell ⟨w.heap.size, 2, none⟩ (.slice none 0 0)).setCell ⟨w.heap.size, 3, none⟩ (.slice none 0 0)).setCell ⟨w.heap.size, 4, none⟩ (.slice none 0 0)).setCell ⟨w.heap.size, 5, none⟩ (.int .i64 0)).setCell ⟨w.heap.size, 6, none⟩ (.slice none 0 0)) = W at hq ⊢
      obtain ⟨hqb, hqc, hqi, hqo⟩ := hq
      have hqb := Lib.hid hqb
      have p0 := hqb.out.cell 0
      have p1 := hqb.out.cell 1
      have p2 := hqb.out.cell 2
      have p3 := hqb.out.cell 3
      have p4 := hqb.out.cell 4
      have p5 := hqb.out.cell 5
      have p6 := hqb.out.cell 6
      simp only [List.getElem?_cons_zero, List.getElem?_cons_succ] at p0 p1 p2 p3 p4 p5 p6
      refine bodyPost_ret (v := .agg #[.slice none 0 0, .int .i64 0, .slice none 0 0, .slice none 0 0, .slice none 0 0, .int .i64 0, .slice none 0 0]) ?_ rfl ?_
      · simp [results, Try.results29, asAddr, Result.andThen, p0, p1, p2, p3, p4, p5, p6, go_sem]
      · rw [HTT.out]
        exact ⟨A2, c2, zeroV, rfl, hqi, fun _ => rfl, hqc, HS3.out.sa, hqo⟩
  · have t1 : decide ((n1 : Int) ≤ 4) = false := decide_eq_false (by omega)
    have t1' : decide (n1 ≤ 4) = false := decide_eq_false hn4
    rw [t1'] at HTT
    clear t1' hn4
    go_wp2_with fail
    obtain ⟨z1, hz'⟩ : ∃ z', chk ⟨0, s1⟩ false = z' := ⟨_, rfl⟩
    refine (check_any w2 q p A2 c2 ⟨0, s1⟩ false HS2.out.cr z1 hz').mono ?_
    rintro en w3 ⟨rfl, hc6, ho6⟩
    have HS3 := Lib.hid (HS2.out.check hc6 ho6 (by rw [← hz']; rfl))
    have HZ_z1 := Lib.hid hz'
    clear hz' hc6 ho6 HS2
    have hne : z1.e ≠ 0 := by
      rw [← HZ_z1.out]
      unfold chk
      rw [if_neg (by simp)]
      dsimp only
      split
      · decide
      · rw [if_neg (by decide)]; decide
    rw [HZ_z1.out] at HTT
    clear t1
    have te1 : decide (z1.e = 0) = false := decide_eq_false hne
    have HTT : Hid (t = ⟨z1, zeroC⟩) := Lib.hid (by rw [HTT.out]; unfold decP2; rw [if_pos (.inl hne)])
    clear hne
    have hkl := Lib.hid HS3.out.loc
    have hkr := Lib.hid HS3.out.res
    have ll := hkl.out.lt
    have lr := hkr.out.lt
    have f0 := hkr.out.free 0
    have f1 := hkr.out.free 1
    have f2 := hkr.out.free 2
    have f3 := hkr.out.free 3
    have f4 := hkr.out.free 4
    have f5 := hkr.out.free 5
    have f6 := hkr.out.free 6
    unfold zcells at hkl
    unfold zcells at hkr
    have m0 := hkl.out.cell 0
    have m1 := hkl.out.cell 1
    have m2 := hkl.out.cell 2
    have m3 := hkl.out.cell 3
    have m4 := hkl.out.cell 4
    have m5 := hkl.out.cell 5
    have m6 := hkl.out.cell 6
    simp only [List.getElem?_cons_zero, List.getElem?_cons_succ] at m0 m1 m2 m3 m4 m5 m6
    have r0 := hkr.out.cell 0
    have r1 := hkr.out.cell 1
    have r2 := hkr.out.cell 2
    have r3 := hkr.out.cell 3
    have r4 := hkr.out.cell 4
    have r5 := hkr.out.cell 5
    have r6 := hkr.out.cell 6
    simp only [List.getElem?_cons_zero, List.getElem?_cons_succ] at r0 r1 r2 r3 r4 r5 r6
    go_wp2_with fail
    clear f0 f1 f2 f3 f4 f5 f6 m0 m1 m2 m3 m4 m5 m6 r0 r1 r2 r3 r4 r5 r6 hkl hkr
    have hq := HS3.out.fin (.slice none 0 0) (.int .i64 0) (.slice none 0 0) (.slice none 0 0) (.slice none 0 0) (.int .i64 0) (.slice none 0 0)
    unfold seven at hq
    generalize (((((((w3.setCell ⟨w.heap.size, 0, none⟩ (.slice none 0 0)).setCell ⟨w.heap.size, 1, none⟩ (.int .i64 0)).setCell ⟨w.heap.size, 2, none⟩ (.slice none 0 0)).setCell ⟨w.heap.size, 3, none⟩ (.slice none 0 0)).setCell ⟨w.heap.size, 4, none⟩ (.slice none 0 0)).setCell ⟨w.heap.size, 5, none⟩ (.int .i64 0)).setCell ⟨w.heap.size, 6, none⟩ (.slice none 0 0)) = W at hq ⊢
    obtain ⟨hqb, hqc, hqi, hqo⟩ := hq
    have hqb := Lib.hid hqb
    have p0 := hqb.out.cell 0
    have p1 := hqb.out.cell 1
    have p2 := hqb.out.cell 2
    have p3 := hqb.out.cell 3
    have p4 := hqb.out.cell 4
    have p5 := hqb.out.cell 5
    have p6 := hqb.out.cell 6
    simp only [List.getElem?_cons_zero, List.getElem?_cons_succ] at p0 p1 p2 p3 p4 p5 p6
    refine bodyPost_ret (v := .agg #[.slice none 0 0, .int .i64 0, .slice none 0 0, .slice none 0 0, .slice none 0 0, .int .i64 0, .slice none 0 0]) ?_ rfl ?_
    · simp [results, Try.results29, asAddr, Result.andThen, p0, p1, p2, p3, p4, p5, p6, go_sem]
    · rw [HTT.out]
      exact ⟨A2, c2, zeroV, rfl, hqi, fun _ => rfl, hqc, HS3.out.sa, hqo⟩
end Go.Proofs.Ytcjpibdgnjncmaa
