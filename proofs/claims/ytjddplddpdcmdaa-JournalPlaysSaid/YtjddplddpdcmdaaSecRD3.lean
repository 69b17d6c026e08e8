/- Contracts of the reference's disk: Write, NewDisk. -/
import Derived.Test.YtjddplddpdcmdaaSecRD2
import Derived.Deep.RegionLaw
import Derived.WalkSpells
namespace Go.Proofs.Ytjddplddpdcmdaa
open Go.RowKit
set_option linter.unusedVariables false
set_option linter.unusedSimpArgs false

section
variable {w0 w w' W W' : World} {S : Nat → Prop} {ds ds' : List (Nat × Dk)} {bs bs' : List (Nat × TypeId × List Value)} {rs rs' rs0 : List (Nat × Value × List Value)} {p g k : Nat} {r r' : Rk} {svs : List Value} {xs : List (List UInt8)} {ps : List (Nat × Value)} {l : List (Nat × List UInt8)} {sv wv v u : Value}
theorem own_below {base n : Nat} {e : TypeId} {sz : Nat} {xs : List Value} (h : w.ownsRow base e sz v n xs) (hb : Below w.heap.size w w') : w'.ownsRow base e sz v n xs :=
  own_off h (Off.of_below hb (S := fun i => w.heap.size ≤ i) (fun i hi => .inl hi)) (fun k hk => by have := (h.lt k hk).2; omega)
theorem puts_one (hp : Ps rs ps l) (hd : DM w0 W ds bs rs) : ∀ u ∈ ps.flatMap putV, u.oneCell' = true := by
  intro u hu
  obtain ⟨e, he, h⟩ := List.mem_flatMap.1 hu
  obtain ⟨k, hk, rfl⟩ := List.mem_iff_getElem.1 he
  obtain ⟨v, h1, h2⟩ := hp.2 k (l[k]'(by rw [← hp.1]; exact hk)) (List.getElem?_eq_getElem _)
  rw [List.getElem?_eq_getElem hk] at h1
  injection h1 with h1
  rw [h1] at h
  obtain ⟨A, c, rfl⟩ := hd.form1 h2
  simp only [putV, List.mem_cons, List.not_mem_nil, or_false] at h
  rcases h with rfl | rfl <;> rfl
theorem rows_one2 (hp : Vs rs svs xs) (hd : DM w0 W ds bs rs) : ∀ u ∈ svs, u.oneCell' = true := by
  intro u hu
  obtain ⟨k, hk, rfl⟩ := List.mem_iff_getElem.1 hu
  obtain ⟨v, h1, h2⟩ := hp.2 k (xs[k]'(by rw [← hp.1]; exact hk)) (List.getElem?_eq_getElem _)
  rw [List.getElem?_eq_getElem hk] at h1
  injection h1 with h1
  rw [h1]
  obtain ⟨A, c, rfl⟩ := hd.form1 h2
  rfl
theorem Ps.snoc (h : Ps rs ps l) {i : Nat} {v : Value} {x : List UInt8} (hv : (1, v, bytesV x) ∈ rs) : Ps rs (ps ++ [(i, v)]) (l ++ [(i, x)]) := by
  refine ⟨by simp [h.1], fun k e he => ?_⟩
  rcases Nat.lt_or_ge k l.length with hk | hk
  · rw [List.getElem?_append_left hk] at he
    obtain ⟨v, h1, h2⟩ := h.2 k e he
    exact ⟨v, by rw [List.getElem?_append_left (by rw [h.1]; exact hk)]; exact h1, h2⟩
  · rw [List.getElem?_append_right hk] at he
    obtain ⟨h0, rfl⟩ : k - l.length = 0 ∧ (i, x) = e := by
      cases hq : k - l.length with
      | zero => rw [hq] at he; simp at he; exact ⟨rfl, he⟩
      | succ n => rw [hq] at he; simp at he
    exact ⟨v, by rw [List.getElem?_append_right (by rw [h.1]; exact hk), h.1, h0]; rfl, hv⟩
set_option maxHeartbeats 3200000 in
set_option maxRecDepth 100000 in
theorem rwrite_any (h : RM w0 W ds p r bs rs0) (hn : r.n < 1000000000) (i : Int) (v : Value) (x : List UInt8) (ha : ArgM w0 bs rs0 v x) :
    Calls Try.prog 28 #[.pointer (some ⟨p, 0, none⟩), .int .i64 i, v] W fun en W' => en = .returned (.int .i64 (r.write i x).2) ∧ RM w0 W' ds p (r.write i x).1 bs rs0 := by
  have HH := Lib.hid h
  have hv := h.argReads ha
  obtain ⟨sv, wv, rs, h1, h2, h3⟩ := h
  obtain ⟨⟨A, c, rfl⟩, Aw, cw, rfl⟩ := h3.form h2
  obtain ⟨Av, cv, rfl, _⟩ := hv.form
  have hb := h2.blk (.head _)
  have k0 := hb.cell 0
  simp only [rcells, List.getElem?_cons_zero, List.getElem?_cons_succ] at k0
  obtain ⟨n, hn'⟩ : ∃ n, r.sure.length = n := ⟨_, rfl⟩
  have HA := Lib.hid ha
  rw [length_bytesV] at HA ⊢
  rw [hn'] at k0
  have HI : Hid (r.hasI i = (decide (0 ≤ i) && decide (i < (n : Int)))) := Lib.hid (by rw [← hn']; rfl)
  have HN := Lib.hid hn'
  have HO := Lib.hid hn
  have HOK := Lib.hid h3.ok
  clear h1 h2 h3 hb hn' hv ha hn
  by_cases hi0 : i < 0
  · have t0 : decide (i < 0) = true := by simp; omega
    have HW : Hid (r.write i x = (r, 1)) := Lib.hid (by unfold Rk.write; rw [HI.out, if_neg (by simp; omega)])
    go_enter Try.func28, Try.ntmps28
    go_wp2
    go_ret
    rw [HW.out]
    exact ⟨rfl, HH.out⟩
  · have t0 : decide (i < 0) = false := by simp; omega
    by_cases hi1 : (n : Int) ≤ i
    · have t1 : decide ((n : Int) ≤ i) = true := by simp; omega
      have HW : Hid (r.write i x = (r, 1)) := Lib.hid (by unfold Rk.write; rw [HI.out, if_neg (by simp; omega)])
      go_enter Try.func28, Try.ntmps28
      go_wp2
      go_ret
      rw [HW.out]
      exact ⟨rfl, HH.out⟩
    · have t1 : decide ((n : Int) ≤ i) = false := by simp; omega
      obtain ⟨j, rfl⟩ : ∃ j : Nat, i = j := ⟨i.toNat, by omega⟩
      have hj : j < n := by omega
      by_cases h64 : x.length = 64
      · have t2 : ((64 : Int) != 64) = false := by decide
        rw [h64] at HA ⊢
        have HX := Lib.hid h64
        have HC : Hid (r.hasI (j : Int) = true ∧ x.length = 64) := Lib.hid ⟨by rw [HI.out]; simp; omega, h64⟩
        have HWK := Lib.hid (Rk.wrote_ok HOK.out (i := j) (by rw [HN.out]; exact hj) h64)
        clear h64
        obtain ⟨dn, hd⟩ : ∃ d, r.op.down = d := ⟨_, rfl⟩
        have HOP := Lib.hid (rop_any HH.out HO.out)
        rw [hd] at HOP
        cases dn with
        | true =>
          have HW : Hid (r.write (j : Int) x = (r.op, 9)) := Lib.hid (by unfold Rk.write; rw [if_pos HC.out, if_pos hd])
          clear hd
          go_enter Try.func28, Try.ntmps28
          go_wp2_with fail
          refine HOP.out.mono ?_
          rintro en w1 ⟨rfl, hrm⟩
          have HRM := Lib.hid hrm
          clear hrm
          go_wp2
          go_ret
          rw [HW.out]
          exact ⟨rfl, HRM.out⟩
        | false =>
          have HW : Hid (r.write (j : Int) x = (r.op.wrote j x, 0)) := Lib.hid (by unfold Rk.write; rw [if_pos HC.out, if_neg (by rw [hd]; simp), Int.toNat_natCast])
          have HL1 : Hid (r.log.length ≤ 1000000000) := Lib.hid (by have := HOK.out.logs; have := HO.out; omega)
          have HLG : Hid (r.op.log = r.log) := Lib.hid rfl
          clear hd
          go_enter Try.func28, Try.ntmps28
          go_wp2_with fail
          refine HOP.out.mono ?_
          rintro en w1 ⟨rfl, hrm⟩
          have hv1 := hrm.argReads HA.out
          obtain ⟨sv1, wv1, rs1, h1, h2, h3⟩ := hrm
          obtain ⟨⟨A1, c1, rfl⟩, Aw1, cw1, rfl⟩ := h3.form h2
          have hb := h2.blk (.head _)
          have k1 := hb.cell 1
          have hp := hb.lt
          simp only [rcells, List.getElem?_cons_zero, List.getElem?_cons_succ] at k1 hp
          obtain ⟨m, hm⟩ : ∃ m, r.op.log.length = m := ⟨_, rfl⟩
          have hm9 : m ≤ 1000000000 := by rw [← hm, HLG.out]; exact HL1.out
          rw [hm] at k1 h2 h3
          obtain ⟨ps, hp1, hp2⟩ := h3.log
          have hpl : ps.length = m := by rw [hp2.1, hm]
          have HRW : Hid (ReadsN 2 w1 w1.heap.size (.slice Aw1 m cw1) (ps.flatMap putV)) := Lib.hid (h2.readsN hp1)
          have HPL : Hid ((ps.flatMap putV).length = m * 2) := Lib.hid (by rw [puts_len, hpl])
          have HPO := Lib.hid (puts_one hp2 h2)
          have HRX := Lib.hid hv1
          have H1 := Lib.hid h1
          have H2 := Lib.hid h2
          have H3 := Lib.hid h3
          have HB := Lib.hid hb
          have HP2 := Lib.hid hp2
          have HM9 := Lib.hid hm9
          have HPP := Lib.hid hpl
          clear hv1 h1 h2 h3 hb hp1 hp2 hm hpl
          go_wp2_with (at_builtin; first
            | (refine wpList_extendN elem_put _ rfl (.const (.slice none 0 0)) (.tmp 29) rfl w1.heap.size 0 (.slice none 0 0) [] rfl (ownsRow_none _ _ _ _) w1.heap.size m _ (ps.flatMap putV) rfl HRW.out HPL.out HPO.out (by have := HM9.out; unfold maxLen; omega) (by have := HM9.out; omega) (Nat.le_refl _) ?_; intro A2 c2 w2 hown2 hg2 hf2; rw [Nat.zero_add, List.nil_append] at hown2; simp only [Nat.zero_add] at hf2 ⊢; have HB2 := Lib.hid ((Below.refl w1.heap.size w1).grown hg2 (Nat.le_refl _) (fun k hk => by cases hk)); have HRX2 := Lib.hid ((HRX.out.below HB2.out).more HB2.out.size); have HO2 := Lib.hid hown2; clear hg2 hf2 hown2)
            | (refine wpList_extend elem_byteR _ rfl (.const (.slice none 0 0)) (.tmp 32) rfl w2.heap.size 0 (.slice none 0 0) [] rfl (World.ownsRow_nil _ _ _ _) w2.heap.size _ (bytesV x) rfl HRX2.out (bytesV_one _) (by rw [length_bytesV, HX.out]; unfold maxLen; omega) (by rw [length_bytesV, HX.out]; omega) (Nat.le_refl _) ?_; intro A3 c3 w3 hown3 hg3 hf3; rw [Nat.zero_add, List.nil_append, length_bytesV, HX.out] at hown3; rw [length_bytesV, HX.out]; have HB3 := Lib.hid ((Below.refl w2.heap.size w2).grown hg3 (Nat.le_refl _) (fun k hk => by cases hk)); have HO3 := Lib.hid hown3; have HO2b := Lib.hid (own_below HO2.out HB3.out); clear hg3 hf3 hown3)
            | (refine wpList_extendN elem_put _ rfl (.tmp 30) (.tmp 35) rfl w1.heap.size m _ (ps.flatMap putV) rfl (own_below HO2b.out ((Below.refl w3.heap.size w3).alloc (Nat.le_refl _) _)) _ 1 _ [.int .i64 (j : Int), .slice A3 64 c3] rfl ((Blk.fresh w3 88 [.int .i64 (j : Int), .slice A3 64 c3]).readsN rfl (by unfold maxLen; omega)) rfl (by simp [Value.oneCell']) (by have := HM9.out; unfold maxLen; omega) (by have := HM9.out; omega) (by have := HB2.out.size; have := HB3.out.size; simp; omega) ?_; intro A4 c4 w4 hown4 hg4 hf4; have HBA := Lib.hid ((Below.refl w3.heap.size w3).alloc (Nat.le_refl _) (.cells #[.int .i64 (j : Int), .slice A3 64 c3] 88)); have HO3b := Lib.hid (own_below HO3.out HBA.out); have HB4 := Lib.hid ((((HB2.out.trans (HB3.out.mono HB2.out.size)).trans (HBA.out.mono (Nat.le_trans HB2.out.size HB3.out.size)))).grown hg4 (by have := HB2.out.size; have := HB3.out.size; have := HBA.out.size; omega) (fun k hk => (HO2.out.lt k hk).1)); have hb4 := HB.out.below HB4.out HB.out.lt; have q1 := hb4.cell 1; have f1 := hb4.free 1; simp only [rcells, List.getElem?_cons_zero, List.getElem?_cons_succ] at q1 f1))
          go_ret
          rw [HW.out]
          have hpn : (Value.slice A4 (m + 1) c4).ownBlock ≠ some p := fun e => by have := (hown4.lt p e).1; omega
          have hst : Off (fun i => i = p) w4 (w4.setCell ⟨p, 1, none⟩ (.slice A4 (m + 1) c4)) := (Off.refl (fun i => i = p) _).setCell (p := ⟨p, 1, none⟩) (.inl rfl) _
          have hw2 := HB2.out.size
          have hw3 := HB3.out.size
          have hr4 : ReadsIn 2 (fun i => w1.heap.size ≤ i) (w4.setCell ⟨p, 1, none⟩ (.slice A4 (m + 1) c4)) (.slice A4 (m + 1) c4) ((ps ++ [(j, Value.slice A3 64 c3)]).flatMap putV) := by
            have h9 := own_off hown4 hst (fun k hk e => hpn (by rw [hk, e]))
            rw [List.flatMap_append]
            exact own_readsIn (by omega) h9 (fun i hi => (h9.lt i hi).1)
          have hr3 : ReadsIn 1 (fun i => w1.heap.size ≤ i) (w4.setCell ⟨p, 1, none⟩ (.slice A4 (m + 1) c4)) (.slice A3 64 c3) (bytesV x) := by
            have h8 := own_off HO3b.out (Off.grown (Off.refl (fun i => (Value.slice A2 m c2).ownBlock = some i) _) hg4 (fun k hk => .inl hk)) (fun k hk e => by
              have h5 := (HO3.out.lt k hk).1
              have h6 := (HO2.out.lt k e).2
              omega)
            have h9 := own_off h8 hst (fun k hk e => by
              have h5 := (HO3.out.lt k hk).1
              omega)
            exact own_readsIn (by omega) h9 (fun i hi => by have h5 := (HO3.out.lt i hi).1; omega)
          refine ⟨rfl, .slice A1 r.op.sure.length c1, .slice A4 (m + 1) c4, (2, .slice A4 (m + 1) c4, (ps ++ [(j, Value.slice A3 64 c3)]).flatMap putV) :: (1, .slice A3 64 c3, bytesV x) :: rs1, fun z hz => .tail _ (.tail _ (H1.out z hz)), H2.out.turnRs ?_ ?_ (fun z hz => ?_), ?_⟩
          · exact (Off.of_below (S := fun i => i = p) HB4.out (fun i hi => .inr hi)).setCell (p := ⟨p, 1, none⟩) (.inl rfl) _
          · exact hb4.put 1 _
          · rcases List.mem_cons.1 hz with rfl | hz
            · exact .inr hr4
            · rcases List.mem_cons.1 hz with rfl | hz
              · exact .inr hr3
              · exact .inl hz
          · obtain ⟨svs1, hs1, hs2⟩ := H3.out.sure
            exact ⟨HWK.out, ⟨svs1, .tail _ (.tail _ hs1), hs2.mono (fun z hz => .tail _ (.tail _ hz))⟩, _, .head _, (HP2.out.mono (fun z hz => .tail _ (.tail _ hz))).snoc (.tail _ (.head _))⟩
      · have t2 : ((x.length : Int) != 64) = true := by simp; omega
        have HW : Hid (r.write (j : Int) x = (r, 1)) := Lib.hid (by unfold Rk.write; rw [if_neg (fun h => h64 h.2)])
        go_enter Try.func28, Try.ntmps28
        go_wp2
        go_ret
        rw [HW.out]
        exact ⟨rfl, HH.out⟩
def secV (g : Nat) : Value := .slice (some ⟨g, 0, none⟩) 64 64
/-- a new disk with sectors so far -/
def NewInv (W wr : World) (gs : List Nat) (sv : Value) : Prop := Below W.heap.size W wr ∧ Blk wr W.heap.size 79 [sv, .slice none 0 0, .int .i64 0, .int .i64 0, .bool false] ∧
  wr.ownsRow (W.heap.size + 1) 31 1 sv gs.length (gs.map secV) ∧ ∀ g ∈ gs, W.heap.size < g ∧ Blk wr g 5 (bytesV (List.replicate 64 0)) ∧ sv.ownBlock ≠ some g
theorem NewInv.next {W wr w1 : World} {gs : List Nat} {k : Nat} {sv : Value} {A : Option Addr} {c : Nat} (h : NewInv W wr gs sv) (h3 : gs.length = k)
    (hown : w1.ownsRow (W.heap.size + 1) 31 1 (.slice A (k + 1) c) (k + 1) (gs.map secV ++ [secV wr.heap.size]))
    (hg : (((wr.alloc (.cells (zerosA (.int .u8 0) 64) 5)).alloc (.cells #[secV wr.heap.size] 31)).drew).grownBy w1 sv.ownBlock)
    (hf : Fresh (((wr.alloc (.cells (zerosA (.int .u8 0) 64) 5)).alloc (.cells #[secV wr.heap.size] 31)).drew) sv (.slice A (k + 1) c)) :
    NewInv W (w1.setCell ⟨W.heap.size, 0, none⟩ (.slice A (k + 1) c)) (gs ++ [wr.heap.size]) (.slice A (k + 1) c) := by
  obtain ⟨h1, h2, h4, h5⟩ := h
  have hs := h1.size
  have hlt := h2.lt
  have kz : Blk (wr.alloc (.cells (zerosA (.int .u8 0) 64) 5)) wr.heap.size 5 (bytesV (List.replicate 64 0)) := by
    have h := Blk.freshA wr 5 (zerosA (.int .u8 0) 64)
    rw [zerosA_toList] at h
    exact h
  have hb0 : Below wr.heap.size wr (((wr.alloc (.cells (zerosA (.int .u8 0) 64) 5)).alloc (.cells #[secV wr.heap.size] 31)).drew) := (((Below.refl _ _).alloc (Nat.le_refl _) _).alloc (by simp) _).drew
  have kz2 := (kz.alloc (.cells #[secV wr.heap.size] 31)).drew
  have hsv : ∀ j, sv.ownBlock = some j → W.heap.size + 1 ≤ j ∧ j < wr.heap.size := fun j hj => h4.lt j hj
  have hsz : (((wr.alloc (.cells (zerosA (.int .u8 0) 64) 5)).alloc (.cells #[secV wr.heap.size] 31)).drew).heap.size = wr.heap.size + 2 := by simp
  have hp2 := ((h2.below hb0 hlt).grown hg (fun e => by have := hsv _ e.symm; omega))
  have hA : ∀ j, (Value.slice A (k + 1) c).ownBlock = some j → sv.ownBlock = some j ∨ wr.heap.size + 2 ≤ j := fun j hj => by
    rcases hf.off hj with h6 | h6
    · exact .inl h6
    · exact .inr (by omega)
  have hst : Off (fun i => i = W.heap.size) w1 (w1.setCell ⟨W.heap.size, 0, none⟩ (.slice A (k + 1) c)) := (Off.refl (fun i => i = W.heap.size) _).setCell (p := ⟨W.heap.size, 0, none⟩) (.inl rfl) _
  refine ⟨?_, hp2.put 0 _, ?_, fun g hgm => ?_⟩
  · exact ((h1.trans (hb0.mono hs)).grown hg (by rw [hsz]; omega) (fun j hj => by have := hsv j hj; omega)).setCell (Nat.le_refl _) _
  · rw [List.map_append, List.length_append, h3]
    exact own_off hown hst (fun j hj e => by
      rcases hA j hj with h6 | h6
      · have := hsv j h6; omega
      · omega)
  · rcases List.mem_append.1 hgm with hgm | hgm
    · obtain ⟨h6, h7, h8⟩ := h5 g hgm
      have h9 := h7.lt
      refine ⟨h6, ((h7.below hb0 h9).grown hg (fun e => h8 e.symm)).off hst (by omega), fun e => ?_⟩
      rcases hA g e with h10 | h10
      · exact h8 h10
      · omega
    · obtain rfl := List.mem_singleton.1 hgm
      refine ⟨hlt, (kz2.grown hg (fun e => by have := hsv _ e.symm; omega)).off hst (by omega), fun e => ?_⟩
      rcases hA _ e with h10 | h10
      · have := hsv _ h10; omega
      · omega
theorem NewInv.start (W : World) : NewInv W (W.alloc (.cells #[.slice none 0 0, .slice none 0 0, .int .i64 0, .int .i64 0, .bool false] 79)) [] (.slice none 0 0) :=
  ⟨(Below.refl _ _).alloc (Nat.le_refl _) _, Blk.fresh W _ _, ownsRow_none _ _ _ _, fun g h => by cases h⟩
theorem NewInv.rm {wr : World} {m : Nat} {gs : List Nat} (hm : m ≤ 4096) (h : NewInv W wr gs sv) (h3 : gs.length = m) (hd : DM w0 W ds bs rs0) : RM w0 wr ds W.heap.size (Rk.new m) bs rs0 := by
  obtain ⟨h1, h2, h4, h5⟩ := h
  have hnd : (bs.map (·.1)).Nodup ∧ ∀ b ∈ bs, b.1 < W.heap.size := by
    refine ⟨?_, fun b hb => (hd.blk hb).lt⟩
    obtain ⟨O, U, _, _, _, _, h4, _⟩ := hd
    exact h4.1
  let news : List (Nat × Value × List Value) := gs.map fun g => (1, secV g, bytesV (List.replicate 64 0))
  have hks : ∀ g, ∀ b ∈ ((W.heap.size, 79, rcells sv (.slice none 0 0) (Rk.new m)) :: bs), W.heap.size < g → b.1 ≠ g := fun g b hb hg e => by
    rcases List.mem_cons.1 hb with rfl | hb
    · simp only at e; omega
    · have := hnd.2 b hb; omega
  refine ⟨sv, .slice none 0 0, (1, sv, gs.map secV) :: (2, .slice none 0 0, []) :: (news ++ rs0), fun z hz => .tail _ (.tail _ (List.mem_append_right _ hz)), hd.step (Off.of_below (S := fun i => W.heap.size ≤ i) h1 (fun i hi => .inl hi)) (fun i hi => .inl hi) ?_ (fun b hb => ?_) (fun z hz => ?_), Rk.new_ok hm, ⟨_, .head _, ?_, fun i x hx => ?_⟩, ⟨[], .tail _ (.head _), rfl, fun i e he => by simp [Rk.new] at he⟩⟩
  · rw [List.map_cons, List.nodup_cons]
    exact ⟨fun hx => by obtain ⟨b, hb, e⟩ := List.mem_map.1 hx; have := hnd.2 b hb; simp only at e; omega, hnd.1⟩
  · rcases List.mem_cons.1 hb with rfl | hb
    · exact ⟨h2, .inl (Nat.le_refl _)⟩
    · exact ⟨(hd.blk hb).below h1 (hd.blk hb).lt, .inr ⟨b, hb, rfl⟩⟩
  · rcases List.mem_cons.1 hz with rfl | hz
    · exact .inr ((own_readsIn (T := fun i => W.heap.size < i) (by omega) h4 (fun i hi => (h4.lt i hi).1)).imp (fun i hi _ => ⟨by omega, fun b hb => hks i b hb hi⟩))
    · rcases List.mem_cons.1 hz with rfl | hz
      · exact .inr (ReadsIn.nil_ _ _)
      · rcases List.mem_append.1 hz with hz | hz
        · obtain ⟨g, hg, rfl⟩ := List.mem_map.1 hz
          obtain ⟨h6, h7, h8⟩ := h5 g hg
          exact .inr ((ReadsIn.of_blk h7 (by rw [length_bytesV]; simp) (by unfold maxLen; omega)).imp (fun i hi _ => by subst hi; exact ⟨by omega, fun b hb => hks i b hb h6⟩))
        · exact .inl hz
  · simp [Rk.new, h3]
  · have hi : i < m := by
      have := (List.getElem?_eq_some_iff.1 hx).1
      simpa [Rk.new] using this
    have hx2 : x = List.replicate 64 0 := by
      simp [Rk.new, List.getElem?_replicate, hi] at hx
      exact hx.symm
    subst hx2
    have hgi : gs[i]? = some (gs[i]'(by omega)) := List.getElem?_eq_getElem _
    refine ⟨secV (gs[i]'(by omega)), by rw [List.getElem?_map, hgi]; rfl, .tail _ (.tail _ (List.mem_append_left _ (List.mem_map.2 ⟨_, List.getElem_mem (by omega), rfl⟩)))⟩
attribute [local go_sem high] run_min_int run_max_int
set_option maxHeartbeats 1600000 in
set_option maxRecDepth 100000 in
theorem rnew_any (hd : DM w0 W ds bs rs0) (n : Int) (m : Nat) (hm : max 0 (min n 4096) = (m : Int)) : Calls Try.prog 23 #[.int .i64 n] W fun en W' => ∃ p, en = .returned (.pointer (some ⟨p, 0, none⟩)) ∧ RM w0 W' ds p (Rk.new m) bs rs0 := by
  have h4 : m ≤ 4096 := by omega
  have HM := Lib.hid hm
  have HD := Lib.hid hd
  have hmk : ∀ (W : World), (Instr.makeSlice 31 (.int .i64 64) (.int .i64 64)).run Try.prog W = .ok (.slice (some ⟨W.heap.size, 0, none⟩) 64 64) (W.alloc (.cells (zerosA (.int .u8 0) 64) 5)) := fun W => by
    obtain ⟨i, hi, hz, hs, hb⟩ := info_parts elem_byteR.info
    exact run_make1 31 5 i _ elem_byteR.und hi hz hs rfl .i64 .i64 64 (by rw [hb]; omega) (by omega) W
  clear hm hd
  go_enter Try.func23, Try.ntmps23
  go_wp2
  rw [HM.out]
  have HS := Lib.hid (NewInv.start W)
  go_loopw [9] (fun i wr => ∃ (k : Nat) (gs : List Nat) (sv : Value), k ≤ m ∧ i = .int .i64 k ∧ Hid (gs.length = k) ∧ Hid (NewInv W wr gs sv)) (fun i _ => m - (intOf i).toNat)
  case atStart => exact ⟨0, [], _, by omega, rfl, Lib.hid rfl, HS⟩
  case round =>
    obtain ⟨k, gs, sv, hk, rfl, hgl, hni⟩ := hrel
    by_cases hlt : k < m
    · have hb := hni.out.2.1
      have k0 := hb.cell 0
      have f0 := hb.free 0
      have hp := hb.lt
      have hown := hni.out.2.2.1
      rw [hgl.out] at hown
      obtain ⟨As, cs, rfl⟩ := own_form hown
      simp only [List.getElem?_cons_zero] at k0
      have i1 : (k : Int) < (m : Int) := by omega
      have HOW := Lib.hid hown
      have HBP := Lib.hid hb
      have hr1 := Reads.one_ (wr.alloc (.cells (zerosA (.int .u8 0) 64) 5)) 31 (secV wr.heap.size)
      rw [World.size_alloc] at hr1
      have HR1 := Lib.hid hr1
      clear hr1
      clear hb hown HS
      go_wp2
      go_region_law
        ((refine step_extend elem_rowsR _ (by rfl) _ _ (by rfl) (W.heap.size + 1) k _ (gs.map secV) (by rfl) (((HOW.out.alloc _).alloc _).drew) _ _ [secV wr.heap.size] (by rfl) HR1.out.drew (by simp [secV, Value.oneCell']) (by simp only [List.length_cons, List.length_nil, maxLen]; omega) (by simp only [List.length_cons, List.length_nil]; omega) (by simp; omega) ?_; intro A' c' w1 hown1 hgrow hfr'; have hbk := ((HBP.out.alloc _).alloc _).drew.grown hgrow (fun e => by have := (HOW.out.lt _ e.symm).1; omega); have hc1 := hbk.cell 0; have hf1 := hbk.free 0; simp only [List.getElem?_cons_zero] at hc1))
      all_goals
        clear hc1 hf1
        have hn2 := Lib.hid (hni.out.next hgl.out hown1 hgrow hfr')
        go_wp2
        go_roundw
        case rel => exact ⟨k + 1, _, _, by omega, by go_num, Lib.hid (by simp [hgl.out]), hn2⟩
        case measure => simp [intOf]; omega
    · obtain rfl : k = m := by omega
      go_wp2
      go_ret
      exact ⟨_, rfl, hni.out.rm h4 hgl.out HD.out⟩
end
end Go.Proofs.Ytjddplddpdcmdaa
