/- Contract of the reference's disk: Crash. -/
import Derived.Test.YtjddplddpdcmdaaSecRD4
namespace Go.Proofs.Ytjddplddpdcmdaa
open Go.RowKit
set_option linter.unusedVariables false
set_option linter.unusedSimpArgs false

section
variable {w0 w w' W W' w1 w2 : World} {S : Nat → Prop} {ds ds' : List (Nat × Dk)} {bs bs' : List (Nat × TypeId × List Value)} {rs rs' rs0 : List (Nat × Value × List Value)} {p g k sz : Nat} {r r' : Rk} {svs : List Value} {xs X : List (List UInt8)} {ps : List (Nat × Value)} {l : List (Nat × List UInt8)} {sv wv v u : Value} {t t' : TypeId} {cs ys rest : List Value}
theorem DM.form64 (hd : DM w0 W ds bs rs) {x : List UInt8} (hx : (1, v, bytesV x) ∈ rs) (h : x.length = 64) : ∃ g o c, v = .slice (some ⟨g, o, none⟩) 64 c ∧ 64 ≤ c ∧ c ≤ 9223372036854775807 ∧ g < W.heap.size := by
  obtain ⟨U, _, A, n, c, e, hl, hc, hm, ha⟩ := hd.reads hx
  rw [length_bytesV, h] at hl
  simp only at hl
  obtain rfl : n = 64 := by omega
  obtain ⟨g, o, rfl, _, hg, _⟩ := ha.out (by omega)
  exact ⟨g, o, c, e, hc, hm, hg⟩
theorem crash_step {log : List (Nat × List UInt8)} {l : List UInt8} {k : Nat} {e : Nat × List UInt8} (he : log[k]? = some e) (X : List (List UInt8)) : crashI (log.drop k) (l.drop k) X = crashI (log.drop (k + 1)) (l.drop (k + 1)) (pickI (l.getD k 0).toNat e.1 e.2 X) := by
  have hk := (List.getElem?_eq_some_iff.1 he).1
  rw [List.drop_eq_getElem_cons hk, (List.getElem?_eq_some_iff.1 he).2]
  rcases Nat.lt_or_ge k l.length with h | h
  · rw [List.drop_eq_getElem_cons h, crashI]
    simp [List.getD_eq_getElem?_getD, h]
  · have d1 : l.drop k = [] := List.drop_of_length_le h
    have d2 : l.drop (k + 1) = [] := List.drop_of_length_le (by omega)
    rw [d1, d2, crashI]
    simp [List.getD_eq_getElem?_getD, h]
theorem Reads.part {A : Option Addr} {n c a b : Nat} {B : Nat} {w : World} {xs : List Value} (h : Reads w B (.slice A n c) xs) (hab : a ≤ b) (hb : b ≤ n) (hc : b ≤ c) {A2 : Option Addr} (hA : a < b → ∀ g o, A = some ⟨g, o, none⟩ → A2 = some ⟨g, o + a, none⟩) {c2 : Nat} (hc2 : b - a ≤ c2) (hm : c2 ≤ maxLen) : Reads w B (.slice A2 (b - a) c2) ((xs.drop a).take (b - a)) := by
  obtain ⟨A', n', c', e, hl, hcc, hm', ha⟩ := h
  injection e with e1 e2 e3
  subst e1 e2 e3
  refine ⟨A2, b - a, c2, rfl, by rw [List.length_take, List.length_drop]; omega, hc2, hm, fun hn => ?_⟩
  obtain ⟨g, o, rfl, hg, hx⟩ := ha.out (by omega)
  refine ⟨g, o + a, hA (by omega) g o rfl, hg, fun j u hu => ?_⟩
  rw [List.getElem?_take] at hu
  split at hu
  · rw [List.getElem?_drop] at hu
    rw [Nat.add_assoc]
    exact hx _ _ hu
  · cases hu
set_option maxHeartbeats 6400000 in
set_option maxRecDepth 100000 in
theorem rcrash_any (h : RM w0 W ds p r bs rs0) (v : Value) (l : List UInt8) (ha : ArgM w0 bs rs0 v l) :
    Calls Try.prog 27 #[.pointer (some ⟨p, 0, none⟩), v] W fun en W' => en = .returned (.tuple #[]) ∧ RM w0 W' ds p (r.crash l) bs rs0 := by
  have hok := h.ok
  have HFK := Lib.hid (Rk.crash_ok hok l)
  have HOK := Lib.hid hok
  obtain ⟨Al, cl, rfl, _⟩ := (h.argReads ha).form
  have hll : l.length ≤ 9223372036854775807 := by
    obtain ⟨_, _, _, e, hl, hc, hm, _⟩ := h.argReads ha
    rw [length_bytesV] at hl
    unfold maxLen at hm
    omega
  obtain ⟨sv1, wv1, rs1, h1, h2, h3⟩ := h
  have HA := Lib.hid (ha.mono (bs' := bs) (fun y hy => hy) h1)
  obtain ⟨⟨A1, c1, rfl⟩, Aw1, cw1, rfl⟩ := h3.form h2
  rw [length_bytesV] at HA ⊢
  have hm9 := h3.logMax h2
  have hb := h2.blk (.head _)
  have k0 := hb.cell 0
  have k1 := hb.cell 1
  have f0 := hb.free 0
  have hp := hb.lt
  simp only [rcells, List.getElem?_cons_zero, List.getElem?_cons_succ] at k0 k1 f0 hp
  generalize hq : r = q at *
  clear hq
  obtain ⟨m, hm⟩ : ∃ m, q.log.length = m := ⟨_, rfl⟩
  obtain ⟨n, hn⟩ : ∃ n, q.sure.length = n := ⟨_, rfl⟩
  have hn4 : n ≤ 4096 := by rw [← hn]; exact HOK.out.most
  rw [hm] at k1 h2 h3 hm9
  rw [hn] at k0 h2 h3
  obtain ⟨svs, hs1, hs2⟩ := h3.sure
  obtain ⟨ps, hp1, hp2⟩ := h3.log
  have HSL : Hid (svs.length = n) := Lib.hid (by rw [hs2.1, hn])
  have HRS := Lib.hid (h2.reads1 hs1)
  have HSO := Lib.hid (rows_one2 hs2 h2)
  have HS2 := Lib.hid hs2
  have HP1 := Lib.hid hp1
  have HP2 := Lib.hid hp2
  have H1 := Lib.hid h1
  have H2 := Lib.hid h2
  have HB := Lib.hid hb
  have HN := Lib.hid hn
  have HM := Lib.hid hm
  clear h1 h2 h3 hb hn hm hs1 hs2 hp1 hp2 ha hok
  go_enter Try.func27, Try.ntmps27
  rcases Nat.eq_zero_or_pos n with hn0 | hn0
  · have hlg : q.log = [] := Rk.empty_log HOK.out (by rw [HN.out]; exact hn0)
    have hm0 : m = 0 := by rw [← HM.out, hlg]; rfl
    subst hn0 hm0
    have HLG := Lib.hid hlg
    clear hlg
    go_upto_region 1 with (at_builtin; refine wpList_extend elem_rowsR _ rfl (.const (.slice none 0 0)) (.tmp 11) rfl W.heap.size 0 (.slice none 0 0) [] rfl (World.ownsRow_nil _ _ _ _) W.heap.size _ svs rfl HRS.out HSO.out (by rw [HSL.out]; unfold maxLen; omega) (by rw [HSL.out]; omega) (Nat.le_refl _) ?_; intro A2 c2 w2 hown2 hg2 hf2; rw [HSL.out, Nat.zero_add, List.nil_append] at hown2; rw [HSL.out]; simp only [Nat.zero_add] at hf2 ⊢; have HB2 := Lib.hid ((Below.refl W.heap.size W).grown hg2 (Nat.le_refl _) (fun k hk => by cases hk)); have HO2 := Lib.hid hown2; have hb2 := HB.out.below HB2.out HB.out.lt; have q0 := hb2.cell 0; have q1 := hb2.cell 1; have g0 := hb2.free 0; simp only [rcells, HM.out, List.getElem?_cons_zero, List.getElem?_cons_succ] at q0 q1 g0; have hp2 := hb2.lt; have HB3 := Lib.hid hb2; clear hown2 hg2 hf2 hb2)
    have hb4 := HB3.out.put 0 (.slice A2 0 c2)
    have HD4 := Lib.hid (H2.out.turnRs (rs' := (1, .slice A2 0 c2, svs) :: rs1) ((Off.of_below (S := fun i => i = p) HB2.out (fun i hi => .inr hi)).setCell (p := ⟨p, 0, none⟩) (.inl rfl) _) hb4 (fun z hz => by
      rcases List.mem_cons.1 hz with rfl | hz
      · have h9 := own_off HO2.out ((Off.refl (fun i => i = p) w2).setCell (p := ⟨p, 0, none⟩) (.inl rfl) (.slice A2 0 c2)) (fun k hk e => by have := (HO2.out.lt k hk).1; omega)
        exact .inr (own_readsIn (by omega) h9 (fun i hi => (h9.lt i hi).1))
      · exact .inl hz))
    have k1 := hb4.cell 1
    have k0 := hb4.cell 0
    have k3 := hb4.cell 3
    have k4 := hb4.cell 4
    have f1 := hb4.free 1
    have f3 := hb4.free 3
    have f4 := hb4.free 4
    have hp4 := hb4.lt
    simp only [rcells, List.set_cons_zero, HM.out, List.getElem?_cons_zero, List.getElem?_cons_succ] at k0 k1 k3 k4 f1 f3 f4
    clear q0 q1 g0 f0 hb4 hp2 HB3
    generalize w2.setCell ⟨p, 0, none⟩ (.slice A2 0 c2) = w4 at HD4 k0 k1 k3 k4 f1 f3 f4 hp4 ⊢
    go_wp2
    go_loopw [20] (fun i wr => i = .int .i64 0 ∧ wr = w4) (fun i _ => 0)
    case atStart => exact ⟨rfl, rfl⟩
    case round =>
      obtain ⟨rfl, rfl⟩ := hrel
      go_wp2
      go_end0
      refine ⟨rfl, .slice A2 0 c2, .slice none 0 0, (2, .slice none 0 0, []) :: (1, .slice A2 0 c2, svs) :: rs1, fun z hz => .tail _ (.tail _ (H1.out z hz)), ?_, HFK.out, ⟨svs, .tail _ (.head _), ?_⟩, ⟨[], .head _, rfl, fun i e he => by simp [Rk.crash] at he⟩⟩
      · exact (((HD4.out.put 1 _).put 3 _).put 4 _).read (Below.refl _ _) (ReadsIn.nil_ _ _)
      · have : (q.crash l).sure = q.sure := by simp [Rk.crash, HLG.out, crashI]
        rw [this]
        exact HS2.out.mono (fun z hz => .tail _ (.tail _ hz))
  · go_upto_region 1 with (at_builtin; refine wpList_extend elem_rowsR _ rfl (.const (.slice none 0 0)) (.tmp 11) rfl W.heap.size 0 (.slice none 0 0) [] rfl (World.ownsRow_nil _ _ _ _) W.heap.size _ svs rfl HRS.out HSO.out (by rw [HSL.out]; unfold maxLen; omega) (by rw [HSL.out]; omega) (Nat.le_refl _) ?_; intro A2 c2 w2 hown2 hg2 hf2; rw [HSL.out, Nat.zero_add, List.nil_append] at hown2; rw [HSL.out]; simp only [Nat.zero_add] at hf2 ⊢; have HB2 := Lib.hid ((Below.refl W.heap.size W).grown hg2 (Nat.le_refl _) (fun k hk => by cases hk)); have HO2 := Lib.hid hown2; have hb2 := HB.out.below HB2.out HB.out.lt; have q0 := hb2.cell 0; have q1 := hb2.cell 1; have g0 := hb2.free 0; simp only [rcells, HM.out, List.getElem?_cons_zero, List.getElem?_cons_succ] at q0 q1 g0; have hp2 := hb2.lt; have HB3 := Lib.hid hb2; clear hown2 hg2 hf2 hb2)
    obtain ⟨g, cap, rest, e2, hwg, hg2, hnc, hcm, hrl, hsl, hbk⟩ := own_blk HO2.out hn0
    injection e2 with e2 _ e3
    subst e2 e3
    have hd4 := H2.out.rowed HB2.out hbk hwg (.slice (some ⟨g, 0, none⟩) n c2)
    have HD4 := Lib.hid hd4
    have hb4 := hd4.blk (.tail _ (.head _))
    have k1 := hb4.cell 1
    have k0 := hb4.cell 0
    have f1 := hb4.free 1
    have hp4 := hb4.lt
    have hpg : p ≠ g := by omega
    simp only [rcells, HM.out, List.getElem?_cons_zero, List.getElem?_cons_succ] at k0 k1 f1 hp4
    have HRL := Lib.hid hrl
    clear q0 q1 g0 f0 hb4 hp2 HB3 hd4 HO2 hbk hrl hsl HB2 H2 HB HRS
    generalize w2.setCell ⟨p, 0, none⟩ (.slice (some ⟨g, 0, none⟩) n c2) = w4 at HD4 k0 k1 f1 hp4 ⊢
    have HC0 : Hid (crashI q.log l q.sure = crashI (q.log.drop 0) (l.drop 0) q.sure) := Lib.hid rfl
    have HX0 : Hid (q.sure.length = n ∧ ∀ b ∈ q.sure, b.length = 64) := Lib.hid ⟨HN.out, HOK.out.sure⟩
    have HR0 : Hid (∀ z ∈ rs1, z ∈ rs1) := Lib.hid (fun z hz => hz)
    go_wp2
    go_loopw [20] (fun i wr => ∃ (k : Nat) (vs : List Value) (X : List (List UInt8)) (rk : List (Nat × Value × List Value)), k ≤ m ∧ i = .int .i64 k ∧ Hid (crashI q.log l q.sure = crashI (q.log.drop k) (l.drop k) X) ∧ Hid (X.length = n ∧ ∀ b ∈ X, b.length = 64) ∧ Hid (∀ z ∈ rs1, z ∈ rk) ∧ Hid (Vs rk vs X) ∧ Hid (DM w0 wr ds ((g, 31, vs ++ rest) :: (p, 79, rcells (.slice (some ⟨g, 0, none⟩) n c2) (.slice Aw1 m cw1) q) :: bs) rk)) (fun i _ => m - (intOf i).toNat)
    case atStart => exact ⟨0, svs, q.sure, rs1, by omega, rfl, HC0, HX0, HR0, HS2, HD4⟩
    case round =>
      obtain ⟨k, vs, X, rk, hk, rfl, hcr, hX, hrk, hvs, hdm⟩ := hrel
      clear k0 k1 f1 HC0 HX0 HR0 HD4
      have hbp : Blk wr p 79 (rcells (.slice (some ⟨g, 0, none⟩) n c2) (.slice Aw1 m cw1) q) := hdm.out.blk (.tail _ (.head _))
      have k0 := hbp.cell 0
      have k1 := hbp.cell 1
      have f1 := hbp.free 1
      have f3 := hbp.free 3
      have f4 := hbp.free 4
      have k3 := hbp.cell 3
      have k4 := hbp.cell 4
      have hpl := hbp.lt
      simp only [rcells, List.getElem?_cons_zero, List.getElem?_cons_succ] at k0 k1 k3 k4 f1 f3 f4 hpl
      have HBP := Lib.hid hbp
      clear hbp
      by_cases hlt : k < m
      · obtain ⟨e, he⟩ : ∃ e, q.log[k]? = some e := ⟨q.log[k]'(by rw [HM.out]; exact hlt), List.getElem?_eq_getElem _⟩
        have hme := HOK.out.log e (List.mem_of_getElem? he)
        obtain ⟨ve, hve, hver⟩ := HP2.out.2 k e he
        have hver2 := hrk.out _ hver
        obtain ⟨U, hU, hrd⟩ := hdm.out.reads (hrk.out _ HP1.out)
        obtain ⟨gw, ow, cw', e1, _, hgw, q0, q1⟩ := hrd.at2 hve
        injection e1 with e1 e2 e3
        subst e1 e3
        obtain ⟨ge, oe, ce, rfl, hce, hce9, hge⟩ := hdm.out.form64 hver2 hme.2
        obtain ⟨ea, eb⟩ := e
        simp only at q0 q1 hme
        have hei : ea < n := by rw [← HN.out]; exact hme.1
        have HVE := Lib.hid hver2
        have HEB := Lib.hid hme.2
        have hpk := crash_step (l := l) he X
        rw [← hcr.out] at hpk
        have hpok := pickI_ok (p := (l.getD k 0).toNat) hei hme.2 hX.out
        have D2 := Lib.hid (hdm.out.below (((Below.refl wr.heap.size wr).alloc (Nat.le_refl _) (.cells #[.int .i64 (ea : Int), .slice (some ⟨ge, oe, none⟩) 64 ce] 88))))
        have HQ := Lib.hid (Blk.fresh wr 88 [.int .i64 (ea : Int), .slice (some ⟨ge, oe, none⟩) 64 ce])
        have HPN := Lib.hid (HBP.out.alloc (.cells #[.int .i64 (ea : Int), .slice (some ⟨ge, oe, none⟩) 64 ce] 88))
        have hgn : g ≠ wr.heap.size := by have := (hdm.out.blk (.head _)).lt; simp only at this; omega
        have hvl : vs.length = n := by rw [hvs.out.1, hX.out.1]
        have HVL := Lib.hid hvl
        obtain ⟨y, hy⟩ : ∃ y, X[ea]? = some y := ⟨X[ea]'(by rw [hX.out.1]; exact hei), List.getElem?_eq_getElem _⟩
        have hyl : y.length = 64 := hX.out.2 y (List.mem_of_getElem? hy)
        obtain ⟨vy, hvy, hvyr⟩ := hvs.out.2 ea y hy
        obtain ⟨gy, oy, cy, rfl, hcy, hcy9, hgy⟩ := hdm.out.form64 hvyr hyl
        have hbg := D2.out.blk (.head _)
        have huo : (wr.alloc (.cells #[.int .i64 (ea : Int), .slice (some ⟨ge, oe, none⟩) 64 ce] 88)).cell? ⟨g, ea, none⟩ = some (.slice (some ⟨gy, oy, none⟩) 64 cy) := by
          rw [hbg.cell ea, List.getElem?_append_left (by rw [hvl]; exact hei)]
          exact hvy
        have HBC := Lib.hid huo
        have HBF := Lib.hid (hbg.free ea)
        have HYL := Lib.hid hyl
        have HYR := Lib.hid hvyr
        have HYG : Hid (X.getD ea [] = y) := Lib.hid (by rw [List.getD_eq_getElem?_getD, hy]; rfl)
        have hgl := hbg.lt
        have i2 : (0 : Int) ≤ (k : Int) := by omega
        have i3 : (k : Int) < (m : Int) := by omega
        have j2 : (0 : Int) ≤ (ea : Int) := by omega
        have j3 : (ea : Int) < (n : Int) := by omega
        have HPK := Lib.hid hpk
        have HPO := Lib.hid hpok
        clear he hme hve hver hver2 hU hrd e2 hbg hvl huo hy hyl hvy hvyr hpk hpok
        have hargs := hdm.out.argReads (HA.out.mono (bs' := (g, 31, vs ++ rest) :: (p, 79, rcells (.slice (some ⟨g, 0, none⟩) n c2) (.slice (some ⟨gw, ow, none⟩) m cw1) q) :: bs) (rs := rk) (fun y hy => .tail _ (.tail _ hy)) hrk.out)
        by_cases hkl : k < l.length
        · obtain ⟨x, hx⟩ : ∃ x, l[k]? = some x := ⟨l[k], List.getElem?_eq_getElem hkl⟩
          obtain ⟨A', n', c', e', _, _, _, ha'⟩ := hargs
          injection e' with e1 e2 e3
          subst e1 e3
          obtain ⟨gl, ol, rfl, hgll, hxl⟩ := ha'.out (by omega)
          have l0 : wr.cell? ⟨gl, ol + k, none⟩ = some (.int .u8 (x.toNat : Int)) := hxl k _ (by simp [bytesV, hx])
          have hxk : l.getD k 0 = x := by rw [List.getD_eq_getElem?_getD, hx]; rfl
          rw [hxk] at HPK HPO
          have l1 : (k : Int) < (l.length : Int) := by omega
          have htm : (x.toNat : Int) % 4 = ((x.toNat % 4 : Nat) : Int) := by omega
          clear e2 ha' hxl hx hxk hkl
          by_cases h2 : x.toNat % 4 = 2
          · have t2 : ((x.toNat : Int) % 4 == 2) = true := by rw [htm, h2]; rfl
            have HPI : Hid (pickI x.toNat ea eb X = X.set ea eb) := Lib.hid (by rw [pickI, if_pos h2])
            clear h2 htm
            rw [HPI.out] at HPK HPO
            go_upto_region 9 with fail
            refine wp_region_held_drew (S := (fun w' => Blk w' p 79 (rcells (.slice (some ⟨g, 0, none⟩) n c2) (.slice (some ⟨gw, ow, none⟩) m cw1) q) ∧ Blk w' wr.heap.size 88 [.int .i64 (ea : Int), .slice (some ⟨ge, oe, none⟩) 64 ce])) (by kernel_rfl) (⟨HPN.out.drew, HQ.out.drew⟩) (fun hHeld => ?_)
            refine' wpAnyH_take (i := 0) (v := _) rfl (by kernel_rfl) (by kernel_rfl) (by kernel_rfl) (fun _ _ _ h => h) (Or.inl ⟨by rfl, ?taq1⟩) (by assumption) ?tbq1
            case taq1 =>
              intro wS hSw
              (try dsimp only at hSw)
              (have m0 := hSw.1.cell 0; have m1 := hSw.2.cell 0; have m2 := hSw.2.cell 1; simp only [rcells, List.getElem?_cons_zero, List.getElem?_cons_succ] at m0 m1 m2; clear hSw; go_simp)
              (try (with_reducible rfl))
            (try simp only [List.getElem_toArray, List.getElem_cons_zero, List.getElem_cons_succ, Act.put, List.setIfInBounds_toArray, List.set_cons_zero, List.set_cons_succ])
            refine' wpAnyH_take (i := 1) (v := _) rfl (by kernel_rfl) (by kernel_rfl) (by kernel_rfl) (fun _ _ _ h => h) (Or.inl ⟨by rfl, ?taq2⟩) (by assumption) ?tbq2
            case taq2 =>
              intro wS hSw
              (try dsimp only at hSw)
              (have m0 := hSw.1.cell 0; have m1 := hSw.2.cell 0; have m2 := hSw.2.cell 1; simp only [rcells, List.getElem?_cons_zero, List.getElem?_cons_succ] at m0 m1 m2; clear hSw; go_simp)
              (try (with_reducible rfl))
            (try simp only [List.getElem_toArray, List.getElem_cons_zero, List.getElem_cons_succ, Act.put, List.setIfInBounds_toArray, List.set_cons_zero, List.set_cons_succ])
            refine' wpAnyH_take (i := 2) (v := _) rfl (by kernel_rfl) (by kernel_rfl) (by kernel_rfl) (fun _ _ _ h => h) (Or.inl ⟨by rfl, ?taq3⟩) (by assumption) ?tbq3
            case taq3 =>
              intro wS hSw
              (try dsimp only at hSw)
              (have m0 := hSw.1.cell 0; have m1 := hSw.2.cell 0; have m2 := hSw.2.cell 1; simp only [rcells, List.getElem?_cons_zero, List.getElem?_cons_succ] at m0 m1 m2; clear hSw; go_simp)
              (try (with_reducible rfl))
            (try simp only [List.getElem_toArray, List.getElem_cons_zero, List.getElem_cons_succ, Act.put, List.setIfInBounds_toArray, List.set_cons_zero, List.set_cons_succ])
            refine' wpAnyH_take (i := 3) (v := _) rfl (by kernel_rfl) (by kernel_rfl) (by kernel_rfl) (fun _ _ _ h => h) (Or.inl ⟨by rfl, ?taq4⟩) (by assumption) ?tbq4
            case taq4 =>
              intro wS hSw
              (try dsimp only at hSw)
              (have m0 := hSw.1.cell 0; have m1 := hSw.2.cell 0; have m2 := hSw.2.cell 1; simp only [rcells, List.getElem?_cons_zero, List.getElem?_cons_succ] at m0 m1 m2; clear hSw; go_simp)
              (try (with_reducible rfl))
            (try simp only [List.getElem_toArray, List.getElem_cons_zero, List.getElem_cons_succ, Act.put, List.setIfInBounds_toArray, List.set_cons_zero, List.set_cons_succ])
            refine' wpAnyH_take (i := 4) (v := _) rfl (by kernel_rfl) (by kernel_rfl) (by kernel_rfl) (fun _ _ _ h => h) (Or.inl ⟨by rfl, ?taq5⟩) (by assumption) ?tbq5
            case taq5 =>
              intro wS hSw
              (try dsimp only at hSw)
              (have m0 := hSw.1.cell 0; have m1 := hSw.2.cell 0; have m2 := hSw.2.cell 1; simp only [rcells, List.getElem?_cons_zero, List.getElem?_cons_succ] at m0 m1 m2; clear hSw; go_simp)
              (try (with_reducible rfl))
            (try simp only [List.getElem_toArray, List.getElem_cons_zero, List.getElem_cons_succ, Act.put, List.setIfInBounds_toArray, List.set_cons_zero, List.set_cons_succ])
            refine' wpAnyH_take (i := 5) (v := _) rfl (by kernel_rfl) (by kernel_rfl) (by kernel_rfl) (fun _ _ _ h => h) (Or.inl ⟨by rfl, ?taq6⟩) (by assumption) ?tbq6
            case taq6 =>
              intro wS hSw
              (try dsimp only at hSw)
              (have m0 := hSw.1.cell 0; have m1 := hSw.2.cell 0; have m2 := hSw.2.cell 1; simp only [rcells, List.getElem?_cons_zero, List.getElem?_cons_succ] at m0 m1 m2; clear hSw; go_simp)
              (try (with_reducible rfl))
            (try simp only [List.getElem_toArray, List.getElem_cons_zero, List.getElem_cons_succ, Act.put, List.setIfInBounds_toArray, List.set_cons_zero, List.set_cons_succ])
            refine' wpAnyH_take (i := 6) (v := _) rfl (by kernel_rfl) (by kernel_rfl) (by kernel_rfl) (fun _ _ _ h => h) (Or.inl ⟨by rfl, ?taq7⟩) (by assumption) ?tbq7
            case taq7 =>
              intro wS hSw
              (try dsimp only at hSw)
              (have m0 := hSw.1.cell 0; have m1 := hSw.2.cell 0; have m2 := hSw.2.cell 1; simp only [rcells, List.getElem?_cons_zero, List.getElem?_cons_succ] at m0 m1 m2; clear hSw; go_simp)
              (try (with_reducible rfl))
            (try simp only [List.getElem_toArray, List.getElem_cons_zero, List.getElem_cons_succ, Act.put, List.setIfInBounds_toArray, List.set_cons_zero, List.set_cons_succ])
            refine' wpAnyH_take (i := 7) (v := _) rfl (by kernel_rfl) (by kernel_rfl) (by kernel_rfl) (fun _ _ _ h => h) (Or.inl ⟨by rfl, ?taq8⟩) (by assumption) ?tbq8
            case taq8 =>
              intro wS hSw
              (try dsimp only at hSw)
              (have m0 := hSw.1.cell 0; have m1 := hSw.2.cell 0; have m2 := hSw.2.cell 1; simp only [rcells, List.getElem?_cons_zero, List.getElem?_cons_succ] at m0 m1 m2; clear hSw; go_simp)
              (try (with_reducible rfl))
            (try simp only [List.getElem_toArray, List.getElem_cons_zero, List.getElem_cons_succ, Act.put, List.setIfInBounds_toArray, List.set_cons_zero, List.set_cons_succ])
            refine' wpAnyH_take (i := 8) (v := _) rfl (by kernel_rfl) (by kernel_rfl) (by kernel_rfl) (fun _ _ _ h => h) (Or.inl ⟨by rfl, ?taq9⟩) (by assumption) ?tbq9
            case taq9 =>
              intro wS hSw
              (try dsimp only at hSw)
              (have m0 := hSw.1.cell 0; have m1 := hSw.2.cell 0; have m2 := hSw.2.cell 1; simp only [rcells, List.getElem?_cons_zero, List.getElem?_cons_succ] at m0 m1 m2; clear hSw; go_simp)
              (try (with_reducible rfl))
            (try simp only [List.getElem_toArray, List.getElem_cons_zero, List.getElem_cons_succ, Act.put, List.setIfInBounds_toArray, List.set_cons_zero, List.set_cons_succ])
            refine wpAnyH_ready (rs := [9]) (by kernel_rfl) (by simp) ?_
            refine AllReadyH.cons rfl (fun K9 hK9 => ?_) AllReadyH.nil
            (try simp only [List.getElem_toArray, List.getElem_cons_zero, List.getElem_cons_succ])
            have cg : (wr.alloc (.cells #[.int .i64 (ea : Int), .slice (some ⟨ge, oe, none⟩) 64 ce] 88)).drew.cell? ⟨g, ea, none⟩ = some (.slice (some ⟨gy, oy, none⟩) 64 cy) := HBC.out
            have fg : (wr.alloc (.cells #[.int .i64 (ea : Int), .slice (some ⟨ge, oe, none⟩) 64 ce] 88)).drew.frozen? ⟨g, ea, none⟩ = false := HBF.out
            go_simp
            refine hK9.out _ _ (⟨HPN.out.drew.far hpg _, HQ.out.drew.far (fun e => hgn e.symm) _⟩) (fun hHeld9 => ?_)
            clear hK9 K9
            (try simp only [List.getElem_toArray, List.getElem_cons_zero, List.getElem_cons_succ, Act.put, List.setIfInBounds_toArray, List.set_cons_zero, List.set_cons_succ])
            refine wpAnyH_done (by kernel_rfl) ?_ _
            have D3 := Lib.hid (D2.out.drew.put ea (.slice (some ⟨ge, oe, none⟩) 64 ce))
            clear cg fg HBC HBF HPN HQ D2
            go_wp2
            go_roundw
            case rel => exact ⟨k + 1, vs.set ea (.slice (some ⟨ge, oe, none⟩) 64 ce), X.set ea eb, rk, by omega, by go_num, HPK, HPO, hrk, Lib.hid (hvs.out.setAt HVE.out), Lib.hid (by have := D3.out; rwa [List.set_append_left _ _ (by rw [HVL.out]; exact hei)] at this)⟩
            case measure => simp [intOf]; omega
          · by_cases h3 : x.toNat % 4 = 3
            · have t2 : ((x.toNat : Int) % 4 == 2) = false := by rw [htm, h3]; rfl
              have t3 : ((x.toNat : Int) % 4 == 3) = true := by rw [htm, h3]; rfl
              have HPI : Hid (pickI x.toNat ea eb X = X.set ea (eb.take 32 ++ y.drop 32)) := Lib.hid (by rw [pickI, if_neg (by omega), if_pos h3, HYG.out])
              clear h2 h3 htm
              rw [HPI.out] at HPK HPO
              have hne : ¬ cy = 32 := by omega
              have s1 : (32 : Int) ≤ (ce : Int) := by omega
              have s2 : (64 : Int) ≤ (cy : Int) := by omega
              have s3 : ¬ ce = 0 := by omega
              go_upto_region 11 with fail
              have HL1 : Hid ((eb.take 32).length = 32) := Lib.hid (by rw [List.length_take, HEB.out]; rfl)
              have HL2 : Hid ((y.drop 32).length = 32) := Lib.hid (by rw [List.length_drop, HYL.out])
              have hre : Reads (wr.alloc (.cells #[.int .i64 (ea : Int), .slice (some ⟨ge, oe, none⟩) 64 ce] 88)) (wr.alloc (.cells #[.int .i64 (ea : Int), .slice (some ⟨ge, oe, none⟩) 64 ce] 88)).heap.size (.slice (some ⟨ge, oe, none⟩) 32 ce) (bytesV (eb.take 32)) := by
                have h9 := Reads.part (D2.out.reads1 HVE.out) (a := 0) (b := 32) (by omega) (by omega) (by omega) (A2 := some ⟨ge, oe, none⟩) (fun _ g o hgo => by injection hgo with hgo; injection hgo with h1 h2; subst h1 h2; rfl) (c2 := ce) (by omega) hce9
                simpa [bytesV_take] using h9
              have hry : Reads (wr.alloc (.cells #[.int .i64 (ea : Int), .slice (some ⟨ge, oe, none⟩) 64 ce] 88)) (wr.alloc (.cells #[.int .i64 (ea : Int), .slice (some ⟨ge, oe, none⟩) 64 ce] 88)).heap.size (.slice (some ⟨gy, oy + 32, none⟩) 32 (cy - 32)) (bytesV (y.drop 32)) := by
                have h9 := Reads.part (D2.out.reads1 HYR.out) (a := 32) (b := 64) (by omega) (by omega) (by omega) (A2 := some ⟨gy, oy + 32, none⟩) (fun _ g o hgo => by injection hgo with hgo; injection hgo with h1 h2; subst h1 h2; rfl) (c2 := cy - 32) (by omega) (by unfold maxLen; omega)
                rw [List.take_of_length_le (by simp [length_bytesV, HYL.out])] at h9
                simpa [bytesV_drop] using h9
              have HRE := Lib.hid hre
              have HRY := Lib.hid hry
              clear hre hry
              generalize (wr.alloc (.cells #[.int .i64 (ea : Int), .slice (some ⟨ge, oe, none⟩) 64 ce] 88)) = w5 at D2 HQ HPN HBC HBF hgl HRE HRY ⊢
              simp only at hgl HBF
              refine wp_region_held_drew (S := (fun w' => Blk w' p 79 (rcells (.slice (some ⟨g, 0, none⟩) n c2) (.slice (some ⟨gw, ow, none⟩) m cw1) q) ∧ Blk w' wr.heap.size 88 [.int .i64 (ea : Int), .slice (some ⟨ge, oe, none⟩) 64 ce])) (by kernel_rfl) (⟨HPN.out.drew, HQ.out.drew⟩) (fun hHeld => ?_)
              refine' wpAnyH_take (i := 0) (v := _) rfl (by kernel_rfl) (by kernel_rfl) (by kernel_rfl) (fun _ _ _ h => h) (Or.inl ⟨by rfl, ?taq10⟩) (by assumption) ?tbq10
              case taq10 =>
                intro wS hSw
                (try dsimp only at hSw)
                (have m0 := hSw.1.cell 0; have m1 := hSw.2.cell 0; have m2 := hSw.2.cell 1; simp only [rcells, List.getElem?_cons_zero, List.getElem?_cons_succ] at m0 m1 m2; clear hSw; go_simp)
                (try (with_reducible rfl))
              (try simp only [List.getElem_toArray, List.getElem_cons_zero, List.getElem_cons_succ, Act.put, List.setIfInBounds_toArray, List.set_cons_zero, List.set_cons_succ])
              refine' wpAnyH_take (i := 1) (v := _) rfl (by kernel_rfl) (by kernel_rfl) (by kernel_rfl) (fun _ _ _ h => h) (Or.inl ⟨by rfl, ?taq11⟩) (by assumption) ?tbq11
              case taq11 =>
                intro wS hSw
                (try dsimp only at hSw)
                (have m0 := hSw.1.cell 0; have m1 := hSw.2.cell 0; have m2 := hSw.2.cell 1; simp only [rcells, List.getElem?_cons_zero, List.getElem?_cons_succ] at m0 m1 m2; clear hSw; go_simp)
                (try (with_reducible rfl))
              (try simp only [List.getElem_toArray, List.getElem_cons_zero, List.getElem_cons_succ, Act.put, List.setIfInBounds_toArray, List.set_cons_zero, List.set_cons_succ])
              refine' wpAnyH_take (i := 2) (v := _) rfl (by kernel_rfl) (by kernel_rfl) (by kernel_rfl) (fun _ _ _ h => h) (Or.inl ⟨by rfl, ?taq12⟩) (by assumption) ?tbq12
              case taq12 =>
                intro wS hSw
                (try dsimp only at hSw)
                (have m0 := hSw.1.cell 0; have m1 := hSw.2.cell 0; have m2 := hSw.2.cell 1; simp only [rcells, List.getElem?_cons_zero, List.getElem?_cons_succ] at m0 m1 m2; clear hSw; go_simp)
                (try (with_reducible rfl))
              (try simp only [List.getElem_toArray, List.getElem_cons_zero, List.getElem_cons_succ, Act.put, List.setIfInBounds_toArray, List.set_cons_zero, List.set_cons_succ])
              refine' wpAnyH_take (i := 3) (v := _) rfl (by kernel_rfl) (by kernel_rfl) (by kernel_rfl) (fun _ _ _ h => h) (Or.inl ⟨by rfl, ?taq13⟩) (by assumption) ?tbq13
              case taq13 =>
                intro wS hSw
                (try dsimp only at hSw)
                (have m0 := hSw.1.cell 0; have m1 := hSw.2.cell 0; have m2 := hSw.2.cell 1; simp only [rcells, List.getElem?_cons_zero, List.getElem?_cons_succ] at m0 m1 m2; clear hSw; go_simp)
                (try (with_reducible rfl))
              (try simp only [List.getElem_toArray, List.getElem_cons_zero, List.getElem_cons_succ, Act.put, List.setIfInBounds_toArray, List.set_cons_zero, List.set_cons_succ])
              refine' wpAnyH_take (i := 4) (v := _) rfl (by kernel_rfl) (by kernel_rfl) (by kernel_rfl) (fun _ _ _ h => h) (Or.inl ⟨by rfl, ?taq14⟩) (by assumption) ?tbq14
              case taq14 =>
                intro wS hSw
                (try dsimp only at hSw)
                (have m0 := hSw.1.cell 0; have m1 := hSw.2.cell 0; have m2 := hSw.2.cell 1; simp only [rcells, List.getElem?_cons_zero, List.getElem?_cons_succ] at m0 m1 m2; clear hSw; go_simp)
                (try (with_reducible rfl))
              (try simp only [List.getElem_toArray, List.getElem_cons_zero, List.getElem_cons_succ, Act.put, List.setIfInBounds_toArray, List.set_cons_zero, List.set_cons_succ])
              refine' wpAnyH_take (i := 5) (v := _) rfl (by kernel_rfl) (by kernel_rfl) (by kernel_rfl) (fun _ _ _ h => h) (Or.inl ⟨by rfl, ?taq15⟩) (by assumption) ?tbq15
              case taq15 =>
                intro wS hSw
                (try dsimp only at hSw)
                (have m0 := hSw.1.cell 0; have m1 := hSw.2.cell 0; have m2 := hSw.2.cell 1; simp only [rcells, List.getElem?_cons_zero, List.getElem?_cons_succ] at m0 m1 m2; clear hSw; go_simp)
                (try (with_reducible rfl))
              (try simp only [List.getElem_toArray, List.getElem_cons_zero, List.getElem_cons_succ, Act.put, List.setIfInBounds_toArray, List.set_cons_zero, List.set_cons_succ])
              refine' wpAnyH_take (i := 6) (v := _) rfl (by kernel_rfl) (by kernel_rfl) (by kernel_rfl) (fun _ _ _ h => h) (Or.inl ⟨by rfl, ?taq16⟩) (by assumption) ?tbq16
              case taq16 =>
                intro wS hSw
                (try dsimp only at hSw)
                (have m0 := hSw.1.cell 0; have m1 := hSw.2.cell 0; have m2 := hSw.2.cell 1; simp only [rcells, List.getElem?_cons_zero, List.getElem?_cons_succ] at m0 m1 m2; clear hSw; go_simp)
                (try (with_reducible rfl))
              (try simp only [List.getElem_toArray, List.getElem_cons_zero, List.getElem_cons_succ, Act.put, List.setIfInBounds_toArray, List.set_cons_zero, List.set_cons_succ])
              refine' wpAnyH_take (i := 7) (v := _) rfl (by kernel_rfl) (by kernel_rfl) (by kernel_rfl) (fun _ _ _ h => h) (Or.inl ⟨by rfl, ?taq17⟩) (by assumption) ?tbq17
              case taq17 =>
                intro wS hSw
                (try dsimp only at hSw)
                (have m0 := hSw.1.cell 0; have m1 := hSw.2.cell 0; have m2 := hSw.2.cell 1; simp only [rcells, List.getElem?_cons_zero, List.getElem?_cons_succ] at m0 m1 m2; clear hSw; go_simp)
                (try (with_reducible rfl))
              (try simp only [List.getElem_toArray, List.getElem_cons_zero, List.getElem_cons_succ, Act.put, List.setIfInBounds_toArray, List.set_cons_zero, List.set_cons_succ])
              refine' wpAnyH_take (i := 8) (v := _) rfl (by kernel_rfl) (by kernel_rfl) (by kernel_rfl) (fun _ _ _ h => h) (Or.inl ⟨by rfl, ?taq18⟩) (by assumption) ?tbq18
              case taq18 =>
                intro wS hSw
                (try dsimp only at hSw)
                (have m0 := hSw.1.cell 0; have m1 := hSw.2.cell 0; have m2 := hSw.2.cell 1; simp only [rcells, List.getElem?_cons_zero, List.getElem?_cons_succ] at m0 m1 m2; clear hSw; go_simp)
                (try (with_reducible rfl))
              (try simp only [List.getElem_toArray, List.getElem_cons_zero, List.getElem_cons_succ, Act.put, List.setIfInBounds_toArray, List.set_cons_zero, List.set_cons_succ])
              refine' wpAnyH_take (i := 10) (v := _) rfl (by kernel_rfl) (by kernel_rfl) (by kernel_rfl) (fun _ _ _ h => h) (Or.inl ⟨by rfl, ?taq19⟩) (by assumption) ?tbq19
              case taq19 =>
                intro wS hSw
                (try dsimp only at hSw)
                (have m0 := hSw.1.cell 0; have m1 := hSw.2.cell 0; have m2 := hSw.2.cell 1; simp only [rcells, List.getElem?_cons_zero, List.getElem?_cons_succ] at m0 m1 m2; clear hSw; go_simp)
                (try (with_reducible rfl))
              (try simp only [List.getElem_toArray, List.getElem_cons_zero, List.getElem_cons_succ, Act.put, List.setIfInBounds_toArray, List.set_cons_zero, List.set_cons_succ])
              refine' wpAnyH_take (i := 11) (v := _) rfl (by kernel_rfl) (by kernel_rfl) (by kernel_rfl) (fun _ _ _ h => h) (Or.inl ⟨by rfl, ?taq20⟩) (by assumption) ?tbq20
              case taq20 =>
                intro wS hSw
                (try dsimp only at hSw)
                (have m0 := hSw.1.cell 0; have m1 := hSw.2.cell 0; have m2 := hSw.2.cell 1; simp only [rcells, List.getElem?_cons_zero, List.getElem?_cons_succ] at m0 m1 m2; clear hSw; go_simp)
                (try (with_reducible rfl))
              (try simp only [List.getElem_toArray, List.getElem_cons_zero, List.getElem_cons_succ, Act.put, List.setIfInBounds_toArray, List.set_cons_zero, List.set_cons_succ])
              refine' wpAnyH_take (i := 12) (v := _) rfl (by kernel_rfl) (by kernel_rfl) (by kernel_rfl) (fun _ _ _ h => h) (Or.inl ⟨by rfl, ?taq21⟩) (by assumption) ?tbq21
              case taq21 =>
                intro wS hSw
                (try dsimp only at hSw)
                (have m0 := hSw.1.cell 0; have m1 := hSw.2.cell 0; have m2 := hSw.2.cell 1; simp only [rcells, List.getElem?_cons_zero, List.getElem?_cons_succ] at m0 m1 m2; clear hSw; go_simp)
                (try (with_reducible rfl))
              (try simp only [List.getElem_toArray, List.getElem_cons_zero, List.getElem_cons_succ, Act.put, List.setIfInBounds_toArray, List.set_cons_zero, List.set_cons_succ])
              refine' wpAnyH_take (i := 13) (v := _) rfl (by kernel_rfl) (by kernel_rfl) (by kernel_rfl) (fun _ _ _ h => h) (Or.inl ⟨by rfl, ?taq22⟩) (by assumption) ?tbq22
              case taq22 =>
                intro wS hSw
                (try dsimp only at hSw)
                (have m0 := hSw.1.cell 0; have m1 := hSw.2.cell 0; have m2 := hSw.2.cell 1; simp only [rcells, List.getElem?_cons_zero, List.getElem?_cons_succ] at m0 m1 m2; clear hSw; go_simp)
                (try (with_reducible rfl))
              (try simp only [List.getElem_toArray, List.getElem_cons_zero, List.getElem_cons_succ, Act.put, List.setIfInBounds_toArray, List.set_cons_zero, List.set_cons_succ])
              refine' wpAnyH_take (i := 14) (v := _) rfl (by kernel_rfl) (by kernel_rfl) (by kernel_rfl) (fun _ _ _ h => h) (Or.inl ⟨by rfl, ?taq23⟩) (by assumption) ?tbq23
              case taq23 =>
                intro wS hSw
                (try dsimp only at hSw)
                (have m0 := hSw.1.cell 0; have m1 := hSw.2.cell 0; have m2 := hSw.2.cell 1; simp only [rcells, List.getElem?_cons_zero, List.getElem?_cons_succ] at m0 m1 m2; clear hSw; go_simp)
                (try (with_reducible rfl))
              (try simp only [List.getElem_toArray, List.getElem_cons_zero, List.getElem_cons_succ, Act.put, List.setIfInBounds_toArray, List.set_cons_zero, List.set_cons_succ])
              refine' wpAnyH_take (i := 15) (v := _) rfl (by kernel_rfl) (by kernel_rfl) (by kernel_rfl) (fun _ _ _ h => h) (Or.inl ⟨by rfl, ?taq24⟩) (by assumption) ?tbq24
              case taq24 =>
                intro wS hSw
                (try dsimp only at hSw)
                (have m0 := hSw.1.cell 0; have m1 := hSw.2.cell 0; have m2 := hSw.2.cell 1; simp only [rcells, List.getElem?_cons_zero, List.getElem?_cons_succ] at m0 m1 m2; clear hSw; go_simp)
                (try (with_reducible rfl))
              (try simp only [List.getElem_toArray, List.getElem_cons_zero, List.getElem_cons_succ, Act.put, List.setIfInBounds_toArray, List.set_cons_zero, List.set_cons_succ])
              refine' wpAnyH_take (i := 16) (v := _) rfl (by kernel_rfl) (by kernel_rfl) (by kernel_rfl) (fun _ _ _ h => h) (Or.inl ⟨by rfl, ?taq25⟩) (by assumption) ?tbq25
              case taq25 =>
                intro wS hSw
                (try dsimp only at hSw)
                (have m0 := hSw.1.cell 0; have m1 := hSw.2.cell 0; have m2 := hSw.2.cell 1; simp only [rcells, List.getElem?_cons_zero, List.getElem?_cons_succ] at m0 m1 m2; clear hSw; go_simp)
                (try (with_reducible rfl))
              (try simp only [List.getElem_toArray, List.getElem_cons_zero, List.getElem_cons_succ, Act.put, List.setIfInBounds_toArray, List.set_cons_zero, List.set_cons_succ])
              refine wpAnyH_ready (rs := [9, 17]) (by kernel_rfl) (by simp) ?_
              refine AllReadyH.cons rfl (fun K9 hK9 => ?_) (AllReadyH.cons rfl (fun K9 hK9 => ?_) AllReadyH.nil)
              · (try simp only [List.getElem_toArray, List.getElem_cons_zero, List.getElem_cons_succ])
                rw [if_pos (by rfl)]
                refine wp_extend elem_byteR _ _ _ (by rfl) w5.heap.size 0 (.slice none 0 0) [] (by rfl) (World.ownsRow_nil _ _ _ _) _ _ (bytesV (eb.take 32)) (by rfl) HRE.out.drew (bytesV_one _) (by rw [length_bytesV, HL1.out]; unfold maxLen; omega) (by rw [length_bytesV, HL1.out]; omega) (Nat.le_refl _) ?_
                intro A2 c4 w6 hown6 hg6 hf6
                rw [length_bytesV, HL1.out, Nat.zero_add, List.nil_append] at hown6
                rw [length_bytesV, HL1.out]
                simp only [Nat.zero_add] at hf6 ⊢
                have HB6 := Lib.hid ((Below.refl w5.heap.size w5).drew.grown hg6 (Nat.le_refl _) (fun k hk => by cases hk))
                have HO6 := Lib.hid hown6
                have D6 := Lib.hid (D2.out.below HB6.out)
                have HRY6 := Lib.hid ((HRY.out.below HB6.out).more HB6.out.size)
                have HP6 := Lib.hid (HPN.out.below HB6.out HPN.out.lt)
                have HQ6 := Lib.hid (HQ.out.below HB6.out HQ.out.lt)
                have HC6 : Hid (w6.cell? ⟨g, ea, none⟩ = some (.slice (some ⟨gy, oy, none⟩) 64 cy)) := Lib.hid ((HB6.out.cell (p := ⟨g, ea, none⟩) hgl).trans HBC.out)
                clear hown6 hg6 hf6
                refine hK9.out _ _ (⟨HP6.out, HQ6.out⟩) (fun hHeld9 => ?_)
                clear hK9 K9
                (try simp only [List.getElem_toArray, List.getElem_cons_zero, List.getElem_cons_succ, Act.put, List.setIfInBounds_toArray, List.set_cons_zero, List.set_cons_succ])
                refine wpAnyH_ready (rs := [17]) (by kernel_rfl) (by simp) ?_
                refine AllReadyH.cons rfl (fun K9 hK9 => ?_) AllReadyH.nil
                (try simp only [List.getElem_toArray, List.getElem_cons_zero, List.getElem_cons_succ])
                have cg17 : w6.cell? ⟨g, ea, none⟩ = some (.slice (some ⟨gy, oy, none⟩) 64 cy) := HC6.out
                go_simp
                refine hK9.out _ _ (⟨HP6.out, HQ6.out⟩) (fun hHeld9 => ?_)
                clear hK9 K9
                (try simp only [List.getElem_toArray, List.getElem_cons_zero, List.getElem_cons_succ, Act.put, List.setIfInBounds_toArray, List.set_cons_zero, List.set_cons_succ])
                refine' wpAnyH_take (i := 18) (v := _) rfl (by kernel_rfl) (by kernel_rfl) (by kernel_rfl) (fun _ _ _ h => h) (Or.inl ⟨by rfl, ?taq26⟩) (by assumption) ?tbq26
                case taq26 =>
                  intro wS hSw
                  (try dsimp only at hSw)
                  (have m0 := hSw.1.cell 0; have m1 := hSw.2.cell 0; have m2 := hSw.2.cell 1; simp only [rcells, List.getElem?_cons_zero, List.getElem?_cons_succ] at m0 m1 m2; clear hSw; go_simp)
                  (try (with_reducible rfl))
                (try simp only [List.getElem_toArray, List.getElem_cons_zero, List.getElem_cons_succ, Act.put, List.setIfInBounds_toArray, List.set_cons_zero, List.set_cons_succ])
                refine wpAnyH_ready (rs := [19]) (by kernel_rfl) (by simp) ?_
                refine AllReadyH.cons rfl (fun K9 hK9 => ?_) AllReadyH.nil
                (try simp only [List.getElem_toArray, List.getElem_cons_zero, List.getElem_cons_succ])
                rw [if_pos (by rfl)]
                refine wp_extend elem_byteR _ _ _ (by rfl) w5.heap.size 32 _ (bytesV (eb.take 32)) (by rfl) HO6.out _ _ (bytesV (y.drop 32)) (by rfl) HRY6.out (bytesV_one _) (by rw [length_bytesV, HL2.out]; unfold maxLen; omega) (by rw [length_bytesV, HL2.out]; omega) HB6.out.size ?_
                intro A3 c5 w7 hown7 hg7 hf7
                rw [length_bytesV, HL2.out, bytesV_append] at hown7
                rw [length_bytesV, HL2.out]
                simp only [Nat.reduceAdd] at hown7 hf7 ⊢
                have HB7 := Lib.hid (HB6.out.grown hg7 HB6.out.size (fun k hk => (HO6.out.lt k hk).1))
                have D7 := Lib.hid (D2.out.read (sz := 1) (v := .slice A3 64 c5) (xs := bytesV (eb.take 32 ++ y.drop 32)) HB7.out (own_readsIn (by omega) hown7 (fun i hi => (hown7.lt i hi).1)))
                have HP7 := Lib.hid (HPN.out.below HB7.out HPN.out.lt)
                have HQ7 := Lib.hid (HQ.out.below HB7.out HQ.out.lt)
                have HC7 : Hid (w7.cell? ⟨g, ea, none⟩ = some (.slice (some ⟨gy, oy, none⟩) 64 cy)) := Lib.hid ((HB7.out.cell (p := ⟨g, ea, none⟩) hgl).trans HBC.out)
                have HF7 : Hid (w7.frozen? ⟨g, ea, none⟩ = false) := Lib.hid ((D7.out.blk (.head _)).free ea)
                clear hown7 hg7 hf7
                refine hK9.out _ _ (⟨HP7.out, HQ7.out⟩) (fun hHeld9 => ?_)
                clear hK9 K9
                (try simp only [List.getElem_toArray, List.getElem_cons_zero, List.getElem_cons_succ, Act.put, List.setIfInBounds_toArray, List.set_cons_zero, List.set_cons_succ])
                refine' wpAnyH_take (i := 20) (v := _) rfl (by kernel_rfl) (by kernel_rfl) (by kernel_rfl) (fun _ _ _ h => h) (Or.inl ⟨by rfl, ?taq27⟩) (by assumption) ?tbq27
                case taq27 =>
                  intro wS hSw
                  (try dsimp only at hSw)
                  (have m0 := hSw.1.cell 0; have m1 := hSw.2.cell 0; have m2 := hSw.2.cell 1; simp only [rcells, List.getElem?_cons_zero, List.getElem?_cons_succ] at m0 m1 m2; clear hSw; go_simp)
                  (try (with_reducible rfl))
                (try simp only [List.getElem_toArray, List.getElem_cons_zero, List.getElem_cons_succ, Act.put, List.setIfInBounds_toArray, List.set_cons_zero, List.set_cons_succ])
                refine wpAnyH_ready (rs := [21]) (by kernel_rfl) (by simp) ?_
                refine AllReadyH.cons rfl (fun K9 hK9 => ?_) AllReadyH.nil
                (try simp only [List.getElem_toArray, List.getElem_cons_zero, List.getElem_cons_succ])
                have cg := HC7.out
                have fg := HF7.out
                go_simp
                refine hK9.out _ _ (⟨HP7.out.far hpg _, HQ7.out.far (fun e => hgn e.symm) _⟩) (fun hHeld9 => ?_)
                clear hK9 K9
                (try simp only [List.getElem_toArray, List.getElem_cons_zero, List.getElem_cons_succ, Act.put, List.setIfInBounds_toArray, List.set_cons_zero, List.set_cons_succ])
                refine wpAnyH_done (by kernel_rfl) ?_ _
                have D8 := Lib.hid (D7.out.put ea (.slice A3 64 c5))
                clear cg fg HC7 HF7 HP7 HQ7 D7 D2 HPN HQ HBC HBF
                go_wp2
                go_roundw
                case rel => exact ⟨k + 1, vs.set ea (.slice A3 64 c5), X.set ea (eb.take 32 ++ y.drop 32), _, by omega, by go_num, HPK, HPO, Lib.hid (fun z hz => .tail _ (hrk.out z hz)), Lib.hid ((hvs.out.mono (fun z hz => .tail _ hz)).setAt (.head _)), Lib.hid (by have := D8.out; rwa [List.set_append_left _ _ (by rw [HVL.out]; exact hei)] at this)⟩
                case measure => simp [intOf]; omega
              · (try simp only [List.getElem_toArray, List.getElem_cons_zero, List.getElem_cons_succ])
                have cg17 : w5.drew.cell? ⟨g, ea, none⟩ = some (.slice (some ⟨gy, oy, none⟩) 64 cy) := HBC.out
                go_simp
                refine hK9.out _ _ (⟨HPN.out.drew, HQ.out.drew⟩) (fun hHeld9 => ?_)
                clear hK9 K9
                (try simp only [List.getElem_toArray, List.getElem_cons_zero, List.getElem_cons_succ, Act.put, List.setIfInBounds_toArray, List.set_cons_zero, List.set_cons_succ])
                refine' wpAnyH_take (i := 18) (v := _) rfl (by kernel_rfl) (by kernel_rfl) (by kernel_rfl) (fun _ _ _ h => h) (Or.inl ⟨by rfl, ?taq28⟩) (by assumption) ?tbq28
                case taq28 =>
                  intro wS hSw
                  (try dsimp only at hSw)
                  (have m0 := hSw.1.cell 0; have m1 := hSw.2.cell 0; have m2 := hSw.2.cell 1; simp only [rcells, List.getElem?_cons_zero, List.getElem?_cons_succ] at m0 m1 m2; clear hSw; go_simp)
                  (try (with_reducible rfl))
                (try simp only [List.getElem_toArray, List.getElem_cons_zero, List.getElem_cons_succ, Act.put, List.setIfInBounds_toArray, List.set_cons_zero, List.set_cons_succ])
                refine wpAnyH_ready (rs := [9]) (by kernel_rfl) (by simp) ?_
                refine AllReadyH.cons rfl (fun K9 hK9 => ?_) AllReadyH.nil
                (try simp only [List.getElem_toArray, List.getElem_cons_zero, List.getElem_cons_succ])
                rw [if_pos (by rfl)]
                refine wp_extend elem_byteR _ _ _ (by rfl) w5.heap.size 0 (.slice none 0 0) [] (by rfl) (World.ownsRow_nil _ _ _ _) _ _ (bytesV (eb.take 32)) (by rfl) HRE.out.drew (bytesV_one _) (by rw [length_bytesV, HL1.out]; unfold maxLen; omega) (by rw [length_bytesV, HL1.out]; omega) (Nat.le_refl _) ?_
                intro A2 c4 w6 hown6 hg6 hf6
                rw [length_bytesV, HL1.out, Nat.zero_add, List.nil_append] at hown6
                rw [length_bytesV, HL1.out]
                simp only [Nat.zero_add] at hf6 ⊢
                have HB6 := Lib.hid ((Below.refl w5.heap.size w5).drew.grown hg6 (Nat.le_refl _) (fun k hk => by cases hk))
                have HO6 := Lib.hid hown6
                have D6 := Lib.hid (D2.out.below HB6.out)
                have HRY6 := Lib.hid ((HRY.out.below HB6.out).more HB6.out.size)
                have HP6 := Lib.hid (HPN.out.below HB6.out HPN.out.lt)
                have HQ6 := Lib.hid (HQ.out.below HB6.out HQ.out.lt)
                have HC6 : Hid (w6.cell? ⟨g, ea, none⟩ = some (.slice (some ⟨gy, oy, none⟩) 64 cy)) := Lib.hid ((HB6.out.cell (p := ⟨g, ea, none⟩) hgl).trans HBC.out)
                clear hown6 hg6 hf6
                refine hK9.out _ _ (⟨HP6.out, HQ6.out⟩) (fun hHeld9 => ?_)
                clear hK9 K9
                (try simp only [List.getElem_toArray, List.getElem_cons_zero, List.getElem_cons_succ, Act.put, List.setIfInBounds_toArray, List.set_cons_zero, List.set_cons_succ])
                refine wpAnyH_ready (rs := [19]) (by kernel_rfl) (by simp) ?_
                refine AllReadyH.cons rfl (fun K9 hK9 => ?_) AllReadyH.nil
                (try simp only [List.getElem_toArray, List.getElem_cons_zero, List.getElem_cons_succ])
                rw [if_pos (by rfl)]
                refine wp_extend elem_byteR _ _ _ (by rfl) w5.heap.size 32 _ (bytesV (eb.take 32)) (by rfl) HO6.out _ _ (bytesV (y.drop 32)) (by rfl) HRY6.out (bytesV_one _) (by rw [length_bytesV, HL2.out]; unfold maxLen; omega) (by rw [length_bytesV, HL2.out]; omega) HB6.out.size ?_
                intro A3 c5 w7 hown7 hg7 hf7
                rw [length_bytesV, HL2.out, bytesV_append] at hown7
                rw [length_bytesV, HL2.out]
                simp only [Nat.reduceAdd] at hown7 hf7 ⊢
                have HB7 := Lib.hid (HB6.out.grown hg7 HB6.out.size (fun k hk => (HO6.out.lt k hk).1))
                have D7 := Lib.hid (D2.out.read (sz := 1) (v := .slice A3 64 c5) (xs := bytesV (eb.take 32 ++ y.drop 32)) HB7.out (own_readsIn (by omega) hown7 (fun i hi => (hown7.lt i hi).1)))
                have HP7 := Lib.hid (HPN.out.below HB7.out HPN.out.lt)
                have HQ7 := Lib.hid (HQ.out.below HB7.out HQ.out.lt)
                have HC7 : Hid (w7.cell? ⟨g, ea, none⟩ = some (.slice (some ⟨gy, oy, none⟩) 64 cy)) := Lib.hid ((HB7.out.cell (p := ⟨g, ea, none⟩) hgl).trans HBC.out)
                have HF7 : Hid (w7.frozen? ⟨g, ea, none⟩ = false) := Lib.hid ((D7.out.blk (.head _)).free ea)
                clear hown7 hg7 hf7
                refine hK9.out _ _ (⟨HP7.out, HQ7.out⟩) (fun hHeld9 => ?_)
                clear hK9 K9
                (try simp only [List.getElem_toArray, List.getElem_cons_zero, List.getElem_cons_succ, Act.put, List.setIfInBounds_toArray, List.set_cons_zero, List.set_cons_succ])
                refine' wpAnyH_take (i := 20) (v := _) rfl (by kernel_rfl) (by kernel_rfl) (by kernel_rfl) (fun _ _ _ h => h) (Or.inl ⟨by rfl, ?taq29⟩) (by assumption) ?tbq29
                case taq29 =>
                  intro wS hSw
                  (try dsimp only at hSw)
                  (have m0 := hSw.1.cell 0; have m1 := hSw.2.cell 0; have m2 := hSw.2.cell 1; simp only [rcells, List.getElem?_cons_zero, List.getElem?_cons_succ] at m0 m1 m2; clear hSw; go_simp)
                  (try (with_reducible rfl))
                (try simp only [List.getElem_toArray, List.getElem_cons_zero, List.getElem_cons_succ, Act.put, List.setIfInBounds_toArray, List.set_cons_zero, List.set_cons_succ])
                refine wpAnyH_ready (rs := [21]) (by kernel_rfl) (by simp) ?_
                refine AllReadyH.cons rfl (fun K9 hK9 => ?_) AllReadyH.nil
                (try simp only [List.getElem_toArray, List.getElem_cons_zero, List.getElem_cons_succ])
                have cg := HC7.out
                have fg := HF7.out
                go_simp
                refine hK9.out _ _ (⟨HP7.out.far hpg _, HQ7.out.far (fun e => hgn e.symm) _⟩) (fun hHeld9 => ?_)
                clear hK9 K9
                (try simp only [List.getElem_toArray, List.getElem_cons_zero, List.getElem_cons_succ, Act.put, List.setIfInBounds_toArray, List.set_cons_zero, List.set_cons_succ])
                refine wpAnyH_done (by kernel_rfl) ?_ _
                have D8 := Lib.hid (D7.out.put ea (.slice A3 64 c5))
                clear cg fg HC7 HF7 HP7 HQ7 D7 D2 HPN HQ HBC HBF
                go_wp2
                go_roundw
                case rel => exact ⟨k + 1, vs.set ea (.slice A3 64 c5), X.set ea (eb.take 32 ++ y.drop 32), _, by omega, by go_num, HPK, HPO, Lib.hid (fun z hz => .tail _ (hrk.out z hz)), Lib.hid ((hvs.out.mono (fun z hz => .tail _ hz)).setAt (.head _)), Lib.hid (by have := D8.out; rwa [List.set_append_left _ _ (by rw [HVL.out]; exact hei)] at this)⟩
                case measure => simp [intOf]; omega
            · have t2 : ((x.toNat : Int) % 4 == 2) = false := by rw [htm]; simp; omega
              have t3 : ((x.toNat : Int) % 4 == 3) = false := by rw [htm]; simp; omega
              have HPI : Hid (pickI x.toNat ea eb X = X) := Lib.hid (by rw [pickI, if_neg h2, if_neg h3])
              clear h2 h3 htm
              rw [HPI.out] at HPK HPO
              go_wp2
              go_roundw
              case rel => exact ⟨k + 1, vs, X, rk, by omega, by go_num, HPK, hX, hrk, hvs, D2⟩
              case measure => simp [intOf]; omega
        · have l1 : ¬ (k : Int) < (l.length : Int) := by omega
          have hxk : l.getD k 0 = 0 := by rw [List.getD_eq_getElem?_getD, List.getElem?_eq_none (by omega)]; rfl
          have HPI : Hid (pickI (l.getD k 0).toNat ea eb X = X) := Lib.hid (by rw [hxk, pickI, if_neg (by decide), if_neg (by decide)])
          rw [HPI.out] at HPK HPO
          clear hargs hkl hxk
          go_wp2
          go_roundw
          case rel => exact ⟨k + 1, vs, X, rk, by omega, by go_num, HPK, hX, hrk, hvs, D2⟩
          case measure => simp [intOf]; omega
      · obtain rfl : k = m := by omega
        have hvl : vs.length = n := by rw [hvs.out.1, hX.out.1]
        have HVL := Lib.hid hvl
        have HV : Hid (Vs rk vs (q.crash l).sure) := Lib.hid (by
          have h9 : (q.crash l).sure = X := by
            show crashI q.log l q.sure = X
            rw [hcr.out, List.drop_of_length_le (by rw [HM.out]; exact Nat.le_refl _), crashI]
          rw [h9]
          exact hvs.out)
        have HD5 := Lib.hid ((((hdm.out.put2 1 (.slice none 0 0)).put2 3 (.int .i64 0)).put2 4 (.bool false)).freezeP (sz := 1) (n := n) (c := c2) (by rw [HVL.out, Nat.mul_one]) hnc hcm)
        clear hvl hvs hdm HBP
        go_wp2
        go_end0
        refine ⟨rfl, .slice (some ⟨g, 0, none⟩) n c2, .slice none 0 0, (2, .slice none 0 0, []) :: (1, .slice (some ⟨g, 0, none⟩) n c2, vs) :: rk, fun z hz => .tail _ (.tail _ (hrk.out z (H1.out z hz))), HD5.out.read (Below.refl _ _) (ReadsIn.nil_ _ _), HFK.out, ⟨vs, .tail _ (.head _), HV.out.mono (fun z hz => .tail _ (.tail _ hz))⟩, ⟨[], .head _, rfl, fun i e he => by simp [Rk.crash] at he⟩⟩
end
end Go.Proofs.Ytjddplddpdcmdaa
