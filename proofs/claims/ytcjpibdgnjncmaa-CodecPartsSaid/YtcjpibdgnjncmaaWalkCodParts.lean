/- The walk of CodecParts. -/
import Derived.Test.YtcjpibdgnjncmaaCodUse
import Derived.Test.YtcjpibdgnjncmaaOpenS
namespace Go.Proofs.Ytcjpibdgnjncmaa
open Go.RowKit
set_option linter.unusedVariables false
set_option linter.unusedSimpArgs false

theorem drop17 {l : List UInt8} (h : l.length = 16) {x : UInt8} {r : List UInt8} : (l ++ ([x] ++ r)).drop 17 = r := by
  rw [← List.append_assoc]
  rw [List.drop_left' (by simp [h])]
def pre16 (seed step : Int) : List UInt8 := [112, 100, 115, 116] ++ (enc8 seed ++ enc4 step)
theorem length_pre16 (seed step : Int) : (pre16 seed step).length = 16 := by
  unfold pre16
  simp only [List.length_append, length_enc8, length_enc4, List.length_cons, List.length_nil]
theorem encC_split (seed step : Int) (cs : List ParC) : encC seed step cs = pre16 seed step ++ (enc1 cs.length ++ cs.flatMap encP) := by
  unfold encC encH pre16
  simp
theorem enc1_byte (n : Nat) (h : n ≤ 255) : enc1 (n : Int) = [UInt8.ofNat n] := by
  obtain ⟨b, hb⟩ : ∃ b : UInt8, enc1 (n : Int) = [b] := by
    have := length_enc1 (n : Int)
    match h : enc1 (n : Int), this with
    | [b], _ => exact ⟨b, rfl⟩
  have h1 := enc1_dec (n : Int) (by omega)
  rw [hb] at h1 ⊢
  have h2 : deB [b] = b.toNat := by simp [deB]
  rw [h2] at h1
  have h3 : b.toNat = n := by omega
  rw [← h3]
  simp
/-- so many bytes a param takes -/
def lenE (p : ParC) : Nat := if p.wd.length = 0 then 1 else 1 + 2 * p.wd.length + 1 + p.wx.length + 4 * p.m.length + 2 + 1 + p.bx.length
theorem lenE_eq {p : ParC} (h : mayC p = true) : (encP p).length = lenE p := by
  unfold encP lenE
  rw [List.length_append, length_enc1]
  cases hz : zeroP p with
  | true =>
    have := zeroP_eq.1 hz
    subst this
    simp [zeroC]
  | false =>
    have h1 := mayB_len (mayC_parts h hz).1
    rw [if_neg (by decide), if_neg (by omega), length_encR]
    omega
/-- the state with one param more -/
theorem mayS_more {sd sp : Int} {v v' : Value} {ps : List ParV} {p : ParV} (h : mayS ⟨sd, sp, v', ps ++ [p]⟩ = true) : mayS ⟨sd, sp, v, ps⟩ = true ∧ mayC p.c = true := by
  obtain ⟨h1, h2, h3⟩ := mayS_of h
  dsimp only at h1 h2 h3
  rw [List.length_append, List.length_singleton] at h2
  refine ⟨?_, h3 p (by simp)⟩
  unfold mayS
  simp only [Bool.and_eq_true, decide_eq_true_eq, List.all_eq_true]
  refine ⟨h1.1, h1.2, by omega, fun c hc => ?_⟩
  obtain ⟨q, hq, rfl⟩ := List.mem_map.1 hc
  exact h3 q (by simp [hq])
theorem encS_more (sd sp : Int) (v v' : Value) (ps : List ParV) (p : ParV) :
    encS ⟨sd, sp, v, ps⟩ = pre16 sd sp ++ (enc1 ps.length ++ (ps.map (·.c)).flatMap encP) ∧
    encS ⟨sd, sp, v', ps ++ [p]⟩ = pre16 sd sp ++ (enc1 (ps.length + 1 : Nat) ++ ((ps.map (·.c)).flatMap encP ++ encP p.c)) := by
  rw [StV.encS_eq, StV.encS_eq, encC_split, encC_split]
  unfold StV.cs
  dsimp only
  rw [List.length_map, List.length_map, List.length_append, List.map_append, List.flatMap_append]
  simp
theorem own_emptyQ (W : World) (base : Nat) (e : TypeId) (sz g : Nat) (hg : g = W.heap.size) (h : base ≤ W.heap.size) : (W.alloc (.cells #[] e)).ownsRow base e sz (.slice (some ⟨g, 0, none⟩) 0 0) 0 [] := by
  subst hg
  have := (Blk.fresh W e []).own (size := sz) (n := 0) (cap := 0) h (Nat.le_refl _) (by unfold maxLen; omega) (by simp)
  simpa using this
theorem pars_one {w : World} {B : Nat} {v : Value} {ps : List ParV} (h : ParsOf w B v ps) : ∀ u ∈ ps.flatMap ParV.cells, u.oneCell' = true := by
  intro u hu
  obtain ⟨p, hp, hu⟩ := List.mem_flatMap.1 hu
  have hok := h.ok.out p hp
  obtain ⟨_, _, _, _, f1, f2⟩ := hok.t.form
  obtain ⟨_, _, f3, _⟩ := hok.m.form
  obtain ⟨_, _, _, _, f4, f5⟩ := hok.b.form
  simp only [ParV.cells, List.mem_cons, List.not_mem_nil, or_false] at hu
  rcases hu with rfl | rfl | rfl | rfl | rfl | rfl | rfl
  · rw [f1]; rfl
  · rfl
  · rw [f2]; rfl
  · rw [f3]; rfl
  · rw [f4]; rfl
  · rfl
  · rw [f5]; rfl
/-- the state's row has one param more -/
def CutP (w5 : World) (g : Nat) (sd sp : Int) (n : Nat) (cs : List Value) (s : Value) (wx : World) : Prop :=
  s = .pointer (some ⟨g, 0, none⟩) ∧ Off (fun i => i = g) w5 wx ∧ ∃ (A : Option Addr) (c : Nat), Blk wx g 25 [.int .u64 sd, .int .i64 sp, .slice A (n + 1) c] ∧ wx.ownsRow w5.heap.size 43 7 (.slice A (n + 1) c) (n + 1) cs
set_option maxRecDepth 100000 in
set_option maxHeartbeats 6400000 in
theorem codecParts_walk (v0 : Value) (a0 : StV) (v1 : Value) (a1 : ParV) (w : World) (o0 : StOf w w.heap.size v0 a0) (o1 : ParArg w v1 a1) :
    Calls Try.prog 5 #[v0, v1] w fun en w' => en = .returned (.bool true) ∧ Below w.heap.size w w' := by
  obtain ⟨seed, step, lv, ps⟩ := a0
  have h0 := o0
  obtain ⟨rfl, _, _, hx⟩ := o0
  dsimp only at hx h0 ⊢
  obtain ⟨A, k, rfl⟩ := hx.form
  have hlen := hx.len
  obtain ⟨rfl, hok⟩ := o1
  obtain ⟨A1, c1, A2, c2, f1, f2⟩ := hok.t.form
  obtain ⟨A3, c3, f3, _, _⟩ := hok.m.form
  obtain ⟨A4, c4, A5, c5, f4, f5⟩ := hok.b.form
  rw [length_ints] at f3
  obtain ⟨pwd, pwx, pmv, pbd, pbx, pc⟩ := a1
  dsimp only at f1 f2 f3 f4 f5 ⊢
  subst f1 f2 f3 f4 f5
  have hln := hok.ln
  unfold lenP at hln
  dsimp only at hln
  have hb0 := ((Below.refl w.heap.size w).alloc (Nat.le_refl _) (.cells #[.int .u64 seed, .int .i64 step, .slice A ps.length k] 25)).alloc (by simp) (.cells #[.slice A1 pc.wd.length c1, .int .i64 pc.we, .slice A2 pc.wx.length c2, .slice A3 pc.m.length c3, .slice A4 pc.bd.length c4, .int .i64 pc.be, .slice A5 pc.bx.length c5] 43)
  have hk0 := (Blk.fresh w 25 [.int .u64 seed, .int .i64 step, .slice A ps.length k]).alloc (.cells #[.slice A1 pc.wd.length c1, .int .i64 pc.we, .slice A2 pc.wx.length c2, .slice A3 pc.m.length c3, .slice A4 pc.bd.length c4, .int .i64 pc.be, .slice A5 pc.bx.length c5] 43)
  have hk1 := Blk.fresh (w.alloc (.cells #[.int .u64 seed, .int .i64 step, .slice A ps.length k] 25)) 43 [.slice A1 pc.wd.length c1, .int .i64 pc.we, .slice A2 pc.wx.length c2, .slice A3 pc.m.length c3, .slice A4 pc.bd.length c4, .int .i64 pc.be, .slice A5 pc.bx.length c5]
  rw [World.size_alloc] at hk1
  have HB := Lib.hid hb0
  have HK := Lib.hid hk0
  have HJ := Lib.hid hk1
  have HY := Lib.hid h0
  have HPX := Lib.hid hx
  have HOK := Lib.hid hok
  have hs := hb0.size
  have hl := hk0.lt
  have hl1 := hk1.lt
  have HL1 := Lib.hid (light_any _ _ _ w.heap.size hb0.size (h0.below hb0))
  have m0 := HK.out.cell 0
  have m1 := HK.out.cell 1
  have m2 := HK.out.cell 2
  simp only [List.getElem?_cons_zero, List.getElem?_cons_succ] at m0 m1 m2
  clear h0 hx hok hb0 hk0 hk1
  go_enter Try.func5, Try.ntmps5
  go_wp2_with fail
  clear m0 m1 m2
  generalize ((w.alloc (.cells #[.int .u64 seed, .int .i64 step, .slice A ps.length k] 25)).alloc (.cells #[.slice A1 pc.wd.length c1, .int .i64 pc.we, .slice A2 pc.wx.length c2, .slice A3 pc.m.length c3, .slice A4 pc.bd.length c4, .int .i64 pc.be, .slice A5 pc.bx.length c5] 43)) = w1 at HB HK HJ hs hl hl1 HL1 ⊢
  refine HL1.out.mono ?_
  rintro en w2 ⟨⟨b2, rfl⟩, hw2⟩
  have HK2 := Lib.hid (HK.out.below hw2 hl)
  have HJ2 := Lib.hid (HJ.out.below hw2 hl1)
  have HB2 := Lib.hid (HB.out.trans (hw2.mono hs))
  have s2 := HB2.out.size
  have l2 := HK2.out.lt
  have j2 := HJ2.out.lt
  clear HK HJ HB HL1 hw2 hl hl1 hs
  cases b2 with
  | false =>
    go_wp2_with (go_at_call 9; refine (awake24_any _).mono ?_; rintro en w' ⟨rfl, hb9⟩)
    go_ret
    exact ⟨rfl, HB2.out.trans (hb9.mono HB2.out.size)⟩
  | true =>
    have m0 := HK2.out.cell 0
    have m1 := HK2.out.cell 1
    have m2 := HK2.out.cell 2
    simp only [List.getElem?_cons_zero, List.getElem?_cons_succ] at m0 m1 m2
    have u0 := HJ2.out.cell 0
    have u1 := HJ2.out.cell 1
    have u2 := HJ2.out.cell 2
    have u3 := HJ2.out.cell 3
    have u4 := HJ2.out.cell 4
    have u5 := HJ2.out.cell 5
    have u6 := HJ2.out.cell 6
    simp only [List.getElem?_cons_zero, List.getElem?_cons_succ] at u0 u1 u2 u3 u4 u5 u6
    by_cases h12 : 12 ≤ ps.length
    · have t1 : decide (12 ≤ (ps.length : Int)) = true := decide_eq_true (by omega)
      go_wp2_with (go_at_call 9; refine (awake24_any _).mono ?_; rintro en w' ⟨rfl, hb9⟩)
      go_ret
      exact ⟨rfl, HB2.out.trans (hb9.mono HB2.out.size)⟩
    · have t1 : decide (12 ≤ (ps.length : Int)) = false := decide_eq_false (by omega)
      by_cases h6 : 600 < (pc.wx.length : Int) + (pc.m.length : Int) + (pc.bx.length : Int)
      · have t2 : decide (600 < (pc.wx.length : Int) + (pc.m.length : Int) + (pc.bx.length : Int)) = true := decide_eq_true h6
        go_wp2_with (go_at_call 9; refine (awake24_any _).mono ?_; rintro en w' ⟨rfl, hb9⟩)
        go_ret
        exact ⟨rfl, HB2.out.trans (hb9.mono HB2.out.size)⟩
      · have t2 : decide (600 < (pc.wx.length : Int) + (pc.m.length : Int) + (pc.bx.length : Int)) = false := decide_eq_false h6
        go_upto_region 4 with fail
        clear t1 t2 m0 m1 m2 u0 u1 u2 u3 u4 u5 u6
        have hba := (Below.refl w2.heap.size w2).alloc (Nat.le_refl _) (.cells #[.int .u64 seed, .int .i64 step, .slice A ps.length k] 25)
        have HK3 := Lib.hid (HK2.out.below hba l2)
        have HJ3 := Lib.hid (HJ2.out.below hba j2)
        have HB3 := Lib.hid (HB2.out.trans (hba.mono s2))
        have HG3 := Lib.hid (Blk.fresh w2 25 [.int .u64 seed, .int .i64 step, .slice A ps.length k])
        have hz3 : w2.heap.size < (w2.alloc (.cells #[.int .u64 seed, .int .i64 step, .slice A ps.length k] 25)).heap.size := by simp
        clear hba HK2 HJ2 HB2
        generalize (w2.alloc (.cells #[.int .u64 seed, .int .i64 step, .slice A ps.length k] 25)) = w3 at HK3 HJ3 HB3 HG3 hz3 ⊢
        generalize w2.heap.size = g at HK3 HJ3 HB3 HG3 hz3 s2 l2 j2 ⊢
        have HP3 := Lib.hid (HPX.out.below HB3.out)
        go_cut [5] (fun s wx => CutP w3 g seed step ps.length ((ps ++ [(⟨.slice A1 pc.wd.length c1, .slice A2 pc.wx.length c2, .slice A3 pc.m.length c3, .slice A4 pc.bd.length c4, .slice A5 pc.bx.length c5, pc⟩ : ParV)]).flatMap ParV.cells) s wx)
        case first =>
          have hdr : Below w3.heap.size w3 w3.drew := (Below.refl _ _).drew
          have kd := Lib.hid (HK3.out.below hdr HK3.out.lt)
          have jd := Lib.hid (HJ3.out.below hdr HJ3.out.lt)
          have gd := Lib.hid (HG3.out.below hdr HG3.out.lt)
          have pd := Lib.hid (HP3.out.below (hdr.mono HB3.out.size))
          have L9 : Hid ((ps.flatMap ParV.cells).length = ps.length * 7) := Lib.hid (flat_length ParV.cells 7 ps (fun p _ => rfl))
          have O9 := Lib.hid (pars_one HPX.out)
          have hzd : w3.heap.size = w3.drew.heap.size := rfl
          refine wp_region_held_drew (S := ((fun w' => Blk w' w.heap.size 25 [.int .u64 seed, .int .i64 step, .slice A ps.length k] ∧ Blk w' (w.heap.size + 1) 43 [.slice A1 pc.wd.length c1, .int .i64 pc.we, .slice A2 pc.wx.length c2, .slice A3 pc.m.length c3, .slice A4 pc.bd.length c4, .int .i64 pc.be, .slice A5 pc.bx.length c5]))) (by kernel_rfl) (⟨kd.out, jd.out⟩) (fun hHeld => ?_)
          have HOFD : Hid (Off (fun i => i = g) w3 w3.drew) := Lib.hid (Off.refl _ _).drew
          clear hdr kd jd
          have s3 := HB3.out.size
          rw [hzd] at hz3 s3
          generalize w3.drew = wd at hHeld gd pd hz3 hzd HOFD s3 ⊢
          have wk : w.heap.size < wd.heap.size := hHeld.1.lt
          have wj : w.heap.size + 1 < wd.heap.size := hHeld.2.lt
          refine' wpAnyH_take (i := 1) (v := _) rfl (by kernel_rfl) (by kernel_rfl) (by kernel_rfl) (fun _ _ _ h => h) (Or.inl ⟨by rfl, ?taq1⟩) (by assumption) ?tbq1
          case taq1 =>
            intro wS hSw
            (try dsimp only at hSw)
            (have m2 := hSw.1.cell 2; have l0 := hSw.1.lt; have u0 := hSw.2.cell 0; have u1 := hSw.2.cell 1; have u2 := hSw.2.cell 2; have u3 := hSw.2.cell 3; have u4 := hSw.2.cell 4; have u5 := hSw.2.cell 5; have u6 := hSw.2.cell 6; have j0 := hSw.2.lt; simp only [List.getElem?_cons_zero, List.getElem?_cons_succ] at m2 u0 u1 u2 u3 u4 u5 u6; clear hSw; go_simp)
            (try (with_reducible rfl))
          (try simp only [List.getElem_toArray, List.getElem_cons_zero, List.getElem_cons_succ, Act.put, List.setIfInBounds_toArray, List.set_cons_zero, List.set_cons_succ])
          refine' wpAnyH_take (i := 2) (v := _) rfl (by kernel_rfl) (by kernel_rfl) (by kernel_rfl) (fun _ _ _ h => h) (Or.inl ⟨by rfl, ?taq2⟩) (by assumption) ?tbq2
          case taq2 =>
            intro wS hSw
            (try dsimp only at hSw)
            (have m2 := hSw.1.cell 2; have l0 := hSw.1.lt; have u0 := hSw.2.cell 0; have u1 := hSw.2.cell 1; have u2 := hSw.2.cell 2; have u3 := hSw.2.cell 3; have u4 := hSw.2.cell 4; have u5 := hSw.2.cell 5; have u6 := hSw.2.cell 6; have j0 := hSw.2.lt; simp only [List.getElem?_cons_zero, List.getElem?_cons_succ] at m2 u0 u1 u2 u3 u4 u5 u6; clear hSw; go_simp)
            (try (with_reducible rfl))
          (try simp only [List.getElem_toArray, List.getElem_cons_zero, List.getElem_cons_succ, Act.put, List.setIfInBounds_toArray, List.set_cons_zero, List.set_cons_succ])
          refine' wpAnyH_take (i := 4) (v := _) rfl (by kernel_rfl) (by kernel_rfl) (by kernel_rfl) (fun _ _ _ h => h) (Or.inl ⟨by rfl, ?taq3⟩) (by assumption) ?tbq3
          case taq3 =>
            intro wS hSw
            (try dsimp only at hSw)
            (have m2 := hSw.1.cell 2; have l0 := hSw.1.lt; have u0 := hSw.2.cell 0; have u1 := hSw.2.cell 1; have u2 := hSw.2.cell 2; have u3 := hSw.2.cell 3; have u4 := hSw.2.cell 4; have u5 := hSw.2.cell 5; have u6 := hSw.2.cell 6; have j0 := hSw.2.lt; simp only [List.getElem?_cons_zero, List.getElem?_cons_succ] at m2 u0 u1 u2 u3 u4 u5 u6; clear hSw; go_simp)
            (try (with_reducible rfl))
          (try simp only [List.getElem_toArray, List.getElem_cons_zero, List.getElem_cons_succ, Act.put, List.setIfInBounds_toArray, List.set_cons_zero, List.set_cons_succ])
          refine wpAnyH_ready (rs := [0, 5]) (by kernel_rfl) (by simp) ?_
          refine AllReadyH.cons rfl (fun K9 hK9 => ?_) (AllReadyH.cons rfl (fun K9 hK9 => ?_) AllReadyH.nil)
          ·
            (try simp only [List.getElem_toArray, List.getElem_cons_zero, List.getElem_cons_succ])
            go_simp
            refine hK9.out _ _ (⟨hHeld.1.alloc _, hHeld.2.alloc _⟩) (fun hHeld9 => ?_)
            clear hK9 K9
            (try simp only [List.getElem_toArray, List.getElem_cons_zero, List.getElem_cons_succ, Act.put, List.setIfInBounds_toArray, List.set_cons_zero, List.set_cons_succ])
            refine wpAnyH_ready (rs := [3, 5]) (by kernel_rfl) (by simp) ?_
            refine AllReadyH.cons rfl (fun K9 hK9 => ?_) (AllReadyH.cons rfl (fun K9 hK9 => ?_) AllReadyH.nil)
            ·
              (try simp only [List.getElem_toArray, List.getElem_cons_zero, List.getElem_cons_succ])
              rw [if_pos (by rfl)]
              refine wp_extendN elem_par (wd.alloc (.cells #[] 43)) _ _ (by rfl) wd.heap.size 0 _ [] (by rfl) (own_emptyQ _ _ _ 7 _ (by simp) (Nat.le_refl _)) _ ps.length _ (ps.flatMap ParV.cells) (by rfl) (pd.out.rd.below (by first | exact (Below.refl _ _).alloc (by omega) _ | exact ((Below.refl _ _).alloc (by omega) _).alloc (by simp; omega) _)) L9.out O9.out (by unfold maxLen; omega) (by omega) (by simp only [World.size_alloc]; omega) ?_
              intro A8 c8 wa hown8 hg8 hf8
              simp only [Nat.zero_add, List.nil_append] at hown8 ⊢
              have hne8 : ∀ q, q < wd.heap.size → (Value.slice A8 ps.length c8).ownBlock ≠ some q := fun q hq e => by have := (hown8.lt q e).1; omega
              refine hK9.out _ _ (⟨(hHeld.1.alloc _).grown hg8 (fun e => by have h1 := Option.some.inj e; simp at h1; omega), (hHeld.2.alloc _).grown hg8 (fun e => by have h1 := Option.some.inj e; simp at h1; omega)⟩) (fun hHeld9 => ?_)
              clear hK9 K9
              (try simp only [List.getElem_toArray, List.getElem_cons_zero, List.getElem_cons_succ, Act.put, List.setIfInBounds_toArray, List.set_cons_zero, List.set_cons_succ])
              refine wpAnyH_ready (rs := [5]) (by kernel_rfl) (by simp) ?_
              refine AllReadyH.cons rfl (fun K9 hK9 => ?_) AllReadyH.nil
              (try simp only [List.getElem_toArray, List.getElem_cons_zero, List.getElem_cons_succ])
              go_simp
              refine hK9.out _ _ (⟨((hHeld.1.alloc _).grown hg8 (fun e => by have h1 := Option.some.inj e; simp at h1; omega)).alloc _, ((hHeld.2.alloc _).grown hg8 (fun e => by have h1 := Option.some.inj e; simp at h1; omega)).alloc _⟩) (fun hHeld9 => ?_)
              clear hK9 K9
              (try simp only [List.getElem_toArray, List.getElem_cons_zero, List.getElem_cons_succ, Act.put, List.setIfInBounds_toArray, List.set_cons_zero, List.set_cons_succ])
              have hbx : Off (fun i => i = g) wd (wa.alloc (.cells #[.slice A1 pc.wd.length c1, .int .i64 pc.we, .slice A2 pc.wx.length c2, .slice A3 pc.m.length c3, .slice A4 pc.bd.length c4, .int .i64 pc.be, .slice A5 pc.bx.length c5] 43)) := ((((Off.refl (fun i => i = g) wd).alloc (.cells #[] 43)).grown hg8 (fun k hk => .inr (by have hk2 := Option.some.inj hk; simp at hk2; omega))).alloc (.cells #[.slice A1 pc.wd.length c1, .int .i64 pc.we, .slice A2 pc.wx.length c2, .slice A3 pc.m.length c3, .slice A4 pc.bd.length c4, .int .i64 pc.be, .slice A5 pc.bx.length c5] 43))
              have kzz := Lib.hid (Blk.fresh wa 43 [.slice A1 pc.wd.length c1, .int .i64 pc.we, .slice A2 pc.wx.length c2, .slice A3 pc.m.length c3, .slice A4 pc.bd.length c4, .int .i64 pc.be, .slice A5 pc.bx.length c5])
              have ow8 := Lib.hid (hown8.alloc (.cells #[.slice A1 pc.wd.length c1, .int .i64 pc.we, .slice A2 pc.wx.length c2, .slice A3 pc.m.length c3, .slice A4 pc.bd.length c4, .int .i64 pc.be, .slice A5 pc.bx.length c5] 43))
              have sz9 := hbx.size
              have hst : Blk (wa.alloc (.cells #[.slice A1 pc.wd.length c1, .int .i64 pc.we, .slice A2 pc.wx.length c2, .slice A3 pc.m.length c3, .slice A4 pc.bd.length c4, .int .i64 pc.be, .slice A5 pc.bx.length c5] 43)) w.heap.size 25 [.int .u64 seed, .int .i64 step, .slice A ps.length k] ∧ Blk (wa.alloc (.cells #[.slice A1 pc.wd.length c1, .int .i64 pc.we, .slice A2 pc.wx.length c2, .slice A3 pc.m.length c3, .slice A4 pc.bd.length c4, .int .i64 pc.be, .slice A5 pc.bx.length c5] 43)) (w.heap.size + 1) 43 [.slice A1 pc.wd.length c1, .int .i64 pc.we, .slice A2 pc.wx.length c2, .slice A3 pc.m.length c3, .slice A4 pc.bd.length c4, .int .i64 pc.be, .slice A5 pc.bx.length c5] := ⟨((hHeld.1.alloc _).grown hg8 (fun e => by have h1 := Option.some.inj e; simp at h1; omega)).alloc _, ((hHeld.2.alloc _).grown hg8 (fun e => by have h1 := Option.some.inj e; simp at h1; omega)).alloc _⟩
              have gz := Lib.hid (((gd.out.alloc (.cells #[] 43)).grown hg8 (fun e => by have h1 := Option.some.inj e; simp at h1; omega)).alloc (.cells #[.slice A1 pc.wd.length c1, .int .i64 pc.we, .slice A2 pc.wx.length c2, .slice A3 pc.m.length c3, .slice A4 pc.bd.length c4, .int .i64 pc.be, .slice A5 pc.bx.length c5] 43))
              have hbx2 := Lib.hid hbx
              clear hbx
              generalize (wa.alloc (.cells #[.slice A1 pc.wd.length c1, .int .i64 pc.we, .slice A2 pc.wx.length c2, .slice A3 pc.m.length c3, .slice A4 pc.bd.length c4, .int .i64 pc.be, .slice A5 pc.bx.length c5] 43)) = wz at kzz ow8 sz9 hst gz hbx2 hHeld9 ⊢
              refine wpAnyH_ready (rs := [6]) (by kernel_rfl) (by simp) ?_
              refine AllReadyH.cons rfl (fun K9 hK9 => ?_) AllReadyH.nil
              (try simp only [List.getElem_toArray, List.getElem_cons_zero, List.getElem_cons_succ])
              rw [if_pos (by rfl)]
              refine wp_extendN elem_par wz _ _ (by rfl) wd.heap.size ps.length _ _ (by rfl) ow8.out _ 1 _ [.slice A1 pc.wd.length c1, .int .i64 pc.we, .slice A2 pc.wx.length c2, .slice A3 pc.m.length c3, .slice A4 pc.bd.length c4, .int .i64 pc.be, .slice A5 pc.bx.length c5] (by rfl) (kzz.out.readsN (sz := 7) (n := 1) rfl (by unfold maxLen; omega)) rfl (by intro u hu; simp only [List.mem_cons, List.not_mem_nil, or_false] at hu; rcases hu with rfl | rfl | rfl | rfl | rfl | rfl | rfl <;> rfl) (by unfold maxLen; omega) (by omega) sz9 ?_
              intro A9 c9 w9 hown9 hg9 hf9
              have hlo8 : ∀ q, q < wd.heap.size → (Value.slice A8 ps.length c8).ownBlock ≠ some q := fun q hq e => by have := (ow8.out.lt q e).1; omega
              have h90 := hst.1.grown hg9 (fun e => hlo8 _ (by omega) e.symm)
              have h91 := hst.2.grown hg9 (fun e => hlo8 _ (by omega) e.symm)
              have h92 := gz.out.grown hg9 (fun e => hlo8 _ hz3 e.symm)
              have hbo := hbx2.out.grown hg9 (fun k hk => .inr (by have := (ow8.out.lt k hk).1; omega))
              have q2 := h92.cell 2
              have f2 := h92.free 2
              have l2' := h92.lt
              simp only [List.getElem?_cons_zero, List.getElem?_cons_succ] at q2
              refine hK9.out _ _ (⟨h90, h91⟩) (fun hHeld9 => ?_)
              clear hK9 K9
              (try simp only [List.getElem_toArray, List.getElem_cons_zero, List.getElem_cons_succ, Act.put, List.setIfInBounds_toArray, List.set_cons_zero, List.set_cons_succ])
              refine' wpAnyH_take (i := 7) (v := _) rfl (by kernel_rfl) (by kernel_rfl) (by kernel_rfl) (fun _ _ _ h => h) (Or.inl ⟨by rfl, ?taq4⟩) (by assumption) ?tbq4
              case taq4 =>
                intro wS hSw
                (try dsimp only at hSw)
                go_simp
                (try (with_reducible rfl))
              (try simp only [List.getElem_toArray, List.getElem_cons_zero, List.getElem_cons_succ, Act.put, List.setIfInBounds_toArray, List.set_cons_zero, List.set_cons_succ])
              have hkk := h92.put 2 (.slice A9 (ps.length + 1) c9)
              simp only [List.set_cons_succ, List.set_cons_zero] at hkk
              have hob := hbo.setCell (p := ⟨g, 2, none⟩) (.inl rfl) (.slice A9 (ps.length + 1) c9)
              have hoo := own_off hown9 ((Off.refl (fun i => i = g) w9).setCell (p := ⟨g, 2, none⟩) (.inl rfl) (.slice A9 (ps.length + 1) c9)) (fun k hk => by have := (hown9.lt k hk).1; show ¬ k = g; omega)
              have e9 : ps.flatMap ParV.cells ++ [.slice A1 pc.wd.length c1, .int .i64 pc.we, .slice A2 pc.wx.length c2, .slice A3 pc.m.length c3, .slice A4 pc.bd.length c4, .int .i64 pc.be, .slice A5 pc.bx.length c5] = (ps ++ [(⟨.slice A1 pc.wd.length c1, .slice A2 pc.wx.length c2, .slice A3 pc.m.length c3, .slice A4 pc.bd.length c4, .slice A5 pc.bx.length c5, pc⟩ : ParV)]).flatMap ParV.cells := by rw [List.flatMap_append]; rfl
              rw [e9] at hoo
              have h90' := h90.far (p := ⟨g, 2, none⟩) (by show w.heap.size ≠ g; omega) (.slice A9 (ps.length + 1) c9)
              have h91' := h91.far (p := ⟨g, 2, none⟩) (by show w.heap.size + 1 ≠ g; omega) (.slice A9 (ps.length + 1) c9)
              refine wpAnyH_ready (rs := [8]) (by kernel_rfl) (by simp) ?_
              refine AllReadyH.cons rfl (fun K9 hK9 => ?_) AllReadyH.nil
              (try simp only [List.getElem_toArray, List.getElem_cons_zero, List.getElem_cons_succ])
              go_simp
              refine hK9.out _ _ ((by first | exact ⟨h90', h91'⟩ | exact ⟨h90'.drew, h91'.drew⟩)) (fun hHeld9 => ?_)
              clear hK9 K9
              (try simp only [List.getElem_toArray, List.getElem_cons_zero, List.getElem_cons_succ, Act.put, List.setIfInBounds_toArray, List.set_cons_zero, List.set_cons_succ])
              refine wpAnyH_done (by kernel_rfl) ?_ _
              clear q2 f2 l2' h92 h90 h91 h90' h91' hst hHeld9
              go_wp2_with fail
              go_meet
              case rel => exact ⟨rfl, HOFD.out.trans hob (fun i hi => .inl hi), A9, c9, hkk, by rw [hzd]; exact hoo⟩
            ·
              (try simp only [List.getElem_toArray, List.getElem_cons_zero, List.getElem_cons_succ])
              go_simp
              refine hK9.out _ _ (⟨(hHeld.1.alloc _).alloc _, (hHeld.2.alloc _).alloc _⟩) (fun hHeld9 => ?_)
              clear hK9 K9
              (try simp only [List.getElem_toArray, List.getElem_cons_zero, List.getElem_cons_succ, Act.put, List.setIfInBounds_toArray, List.set_cons_zero, List.set_cons_succ])
              refine wpAnyH_ready (rs := [3]) (by kernel_rfl) (by simp) ?_
              refine AllReadyH.cons rfl (fun K9 hK9 => ?_) AllReadyH.nil
              (try simp only [List.getElem_toArray, List.getElem_cons_zero, List.getElem_cons_succ])
              rw [if_pos (by rfl)]
              refine wp_extendN elem_par ((wd.alloc (.cells #[] 43)).alloc (.cells #[.slice A1 pc.wd.length c1, .int .i64 pc.we, .slice A2 pc.wx.length c2, .slice A3 pc.m.length c3, .slice A4 pc.bd.length c4, .int .i64 pc.be, .slice A5 pc.bx.length c5] 43)) _ _ (by rfl) wd.heap.size 0 _ [] (by rfl) ((own_emptyQ _ _ _ 7 _ (by simp) (Nat.le_refl _)).alloc _) _ ps.length _ (ps.flatMap ParV.cells) (by rfl) (pd.out.rd.below (by first | exact (Below.refl _ _).alloc (by omega) _ | exact ((Below.refl _ _).alloc (by omega) _).alloc (by simp; omega) _)) L9.out O9.out (by unfold maxLen; omega) (by omega) (by simp only [World.size_alloc]; omega) ?_
              intro A8 c8 wa hown8 hg8 hf8
              simp only [Nat.zero_add, List.nil_append] at hown8 ⊢
              have hne8 : ∀ q, q < wd.heap.size → (Value.slice A8 ps.length c8).ownBlock ≠ some q := fun q hq e => by have := (hown8.lt q e).1; omega
              refine hK9.out _ _ (⟨((hHeld.1.alloc _).alloc _).grown hg8 (fun e => by have h1 := Option.some.inj e; simp at h1; omega), ((hHeld.2.alloc _).alloc _).grown hg8 (fun e => by have h1 := Option.some.inj e; simp at h1; omega)⟩) (fun hHeld9 => ?_)
              clear hK9 K9
              (try simp only [List.getElem_toArray, List.getElem_cons_zero, List.getElem_cons_succ, Act.put, List.setIfInBounds_toArray, List.set_cons_zero, List.set_cons_succ])
              have hbx : Off (fun i => i = g) wd wa := (((Off.refl (fun i => i = g) wd).alloc (.cells #[] 43)).alloc (.cells #[.slice A1 pc.wd.length c1, .int .i64 pc.we, .slice A2 pc.wx.length c2, .slice A3 pc.m.length c3, .slice A4 pc.bd.length c4, .int .i64 pc.be, .slice A5 pc.bx.length c5] 43)).grown hg8 (fun k hk => .inr (by have hk2 := Option.some.inj hk; simp at hk2; omega))
              have kzz := Lib.hid (by have h := Blk.fresh (wd.alloc (.cells #[] 43)) 43 [.slice A1 pc.wd.length c1, .int .i64 pc.we, .slice A2 pc.wx.length c2, .slice A3 pc.m.length c3, .slice A4 pc.bd.length c4, .int .i64 pc.be, .slice A5 pc.bx.length c5]; rw [World.size_alloc] at h; exact h.grown hg8 (fun e => by have h1 := Option.some.inj e; simp at h1))
              have ow8 := Lib.hid (hown8)
              have sz9 := hbx.size
              have hst : Blk wa w.heap.size 25 [.int .u64 seed, .int .i64 step, .slice A ps.length k] ∧ Blk wa (w.heap.size + 1) 43 [.slice A1 pc.wd.length c1, .int .i64 pc.we, .slice A2 pc.wx.length c2, .slice A3 pc.m.length c3, .slice A4 pc.bd.length c4, .int .i64 pc.be, .slice A5 pc.bx.length c5] := ⟨((hHeld.1.alloc _).alloc _).grown hg8 (fun e => by have h1 := Option.some.inj e; simp at h1; omega), ((hHeld.2.alloc _).alloc _).grown hg8 (fun e => by have h1 := Option.some.inj e; simp at h1; omega)⟩
              have gz := Lib.hid (((gd.out.alloc (.cells #[] 43)).alloc (.cells #[.slice A1 pc.wd.length c1, .int .i64 pc.we, .slice A2 pc.wx.length c2, .slice A3 pc.m.length c3, .slice A4 pc.bd.length c4, .int .i64 pc.be, .slice A5 pc.bx.length c5] 43)).grown hg8 (fun e => by have h1 := Option.some.inj e; simp at h1; omega))
              have hbx2 := Lib.hid hbx
              clear hbx
              generalize wa = wz at kzz ow8 sz9 hst gz hbx2 hHeld9 ⊢
              refine wpAnyH_ready (rs := [6]) (by kernel_rfl) (by simp) ?_
              refine AllReadyH.cons rfl (fun K9 hK9 => ?_) AllReadyH.nil
              (try simp only [List.getElem_toArray, List.getElem_cons_zero, List.getElem_cons_succ])
              rw [if_pos (by rfl)]
              refine wp_extendN elem_par wz _ _ (by rfl) wd.heap.size ps.length _ _ (by rfl) ow8.out _ 1 _ [.slice A1 pc.wd.length c1, .int .i64 pc.we, .slice A2 pc.wx.length c2, .slice A3 pc.m.length c3, .slice A4 pc.bd.length c4, .int .i64 pc.be, .slice A5 pc.bx.length c5] (by rfl) (kzz.out.readsN (sz := 7) (n := 1) rfl (by unfold maxLen; omega)) rfl (by intro u hu; simp only [List.mem_cons, List.not_mem_nil, or_false] at hu; rcases hu with rfl | rfl | rfl | rfl | rfl | rfl | rfl <;> rfl) (by unfold maxLen; omega) (by omega) sz9 ?_
              intro A9 c9 w9 hown9 hg9 hf9
              have hlo8 : ∀ q, q < wd.heap.size → (Value.slice A8 ps.length c8).ownBlock ≠ some q := fun q hq e => by have := (ow8.out.lt q e).1; omega
              have h90 := hst.1.grown hg9 (fun e => hlo8 _ (by omega) e.symm)
              have h91 := hst.2.grown hg9 (fun e => hlo8 _ (by omega) e.symm)
              have h92 := gz.out.grown hg9 (fun e => hlo8 _ hz3 e.symm)
              have hbo := hbx2.out.grown hg9 (fun k hk => .inr (by have := (ow8.out.lt k hk).1; omega))
              have q2 := h92.cell 2
              have f2 := h92.free 2
              have l2' := h92.lt
              simp only [List.getElem?_cons_zero, List.getElem?_cons_succ] at q2
              refine hK9.out _ _ (⟨h90, h91⟩) (fun hHeld9 => ?_)
              clear hK9 K9
              (try simp only [List.getElem_toArray, List.getElem_cons_zero, List.getElem_cons_succ, Act.put, List.setIfInBounds_toArray, List.set_cons_zero, List.set_cons_succ])
              refine' wpAnyH_take (i := 7) (v := _) rfl (by kernel_rfl) (by kernel_rfl) (by kernel_rfl) (fun _ _ _ h => h) (Or.inl ⟨by rfl, ?taq5⟩) (by assumption) ?tbq5
              case taq5 =>
                intro wS hSw
                (try dsimp only at hSw)
                go_simp
                (try (with_reducible rfl))
              (try simp only [List.getElem_toArray, List.getElem_cons_zero, List.getElem_cons_succ, Act.put, List.setIfInBounds_toArray, List.set_cons_zero, List.set_cons_succ])
              have hkk := h92.put 2 (.slice A9 (ps.length + 1) c9)
              simp only [List.set_cons_succ, List.set_cons_zero] at hkk
              have hob := hbo.setCell (p := ⟨g, 2, none⟩) (.inl rfl) (.slice A9 (ps.length + 1) c9)
              have hoo := own_off hown9 ((Off.refl (fun i => i = g) w9).setCell (p := ⟨g, 2, none⟩) (.inl rfl) (.slice A9 (ps.length + 1) c9)) (fun k hk => by have := (hown9.lt k hk).1; show ¬ k = g; omega)
              have e9 : ps.flatMap ParV.cells ++ [.slice A1 pc.wd.length c1, .int .i64 pc.we, .slice A2 pc.wx.length c2, .slice A3 pc.m.length c3, .slice A4 pc.bd.length c4, .int .i64 pc.be, .slice A5 pc.bx.length c5] = (ps ++ [(⟨.slice A1 pc.wd.length c1, .slice A2 pc.wx.length c2, .slice A3 pc.m.length c3, .slice A4 pc.bd.length c4, .slice A5 pc.bx.length c5, pc⟩ : ParV)]).flatMap ParV.cells := by rw [List.flatMap_append]; rfl
              rw [e9] at hoo
              have h90' := h90.far (p := ⟨g, 2, none⟩) (by show w.heap.size ≠ g; omega) (.slice A9 (ps.length + 1) c9)
              have h91' := h91.far (p := ⟨g, 2, none⟩) (by show w.heap.size + 1 ≠ g; omega) (.slice A9 (ps.length + 1) c9)
              refine wpAnyH_ready (rs := [8]) (by kernel_rfl) (by simp) ?_
              refine AllReadyH.cons rfl (fun K9 hK9 => ?_) AllReadyH.nil
              (try simp only [List.getElem_toArray, List.getElem_cons_zero, List.getElem_cons_succ])
              go_simp
              refine hK9.out _ _ ((by first | exact ⟨h90', h91'⟩ | exact ⟨h90'.drew, h91'.drew⟩)) (fun hHeld9 => ?_)
              clear hK9 K9
              (try simp only [List.getElem_toArray, List.getElem_cons_zero, List.getElem_cons_succ, Act.put, List.setIfInBounds_toArray, List.set_cons_zero, List.set_cons_succ])
              refine wpAnyH_done (by kernel_rfl) ?_ _
              clear q2 f2 l2' h92 h90 h91 h90' h91' hst hHeld9
              go_wp2_with fail
              go_meet
              case rel => exact ⟨rfl, HOFD.out.trans hob (fun i hi => .inl hi), A9, c9, hkk, by rw [hzd]; exact hoo⟩
          ·
            (try simp only [List.getElem_toArray, List.getElem_cons_zero, List.getElem_cons_succ])
            go_simp
            refine hK9.out _ _ (⟨hHeld.1.alloc _, hHeld.2.alloc _⟩) (fun hHeld9 => ?_)
            clear hK9 K9
            (try simp only [List.getElem_toArray, List.getElem_cons_zero, List.getElem_cons_succ, Act.put, List.setIfInBounds_toArray, List.set_cons_zero, List.set_cons_succ])
            refine wpAnyH_ready (rs := [0]) (by kernel_rfl) (by simp) ?_
            refine AllReadyH.cons rfl (fun K9 hK9 => ?_) AllReadyH.nil
            (try simp only [List.getElem_toArray, List.getElem_cons_zero, List.getElem_cons_succ])
            go_simp
            refine hK9.out _ _ (⟨(hHeld.1.alloc _).alloc _, (hHeld.2.alloc _).alloc _⟩) (fun hHeld9 => ?_)
            clear hK9 K9
            (try simp only [List.getElem_toArray, List.getElem_cons_zero, List.getElem_cons_succ, Act.put, List.setIfInBounds_toArray, List.set_cons_zero, List.set_cons_succ])
            refine wpAnyH_ready (rs := [3]) (by kernel_rfl) (by simp) ?_
            refine AllReadyH.cons rfl (fun K9 hK9 => ?_) AllReadyH.nil
            (try simp only [List.getElem_toArray, List.getElem_cons_zero, List.getElem_cons_succ])
            rw [if_pos (by rfl)]
            refine wp_extendN elem_par ((wd.alloc (.cells #[.slice A1 pc.wd.length c1, .int .i64 pc.we, .slice A2 pc.wx.length c2, .slice A3 pc.m.length c3, .slice A4 pc.bd.length c4, .int .i64 pc.be, .slice A5 pc.bx.length c5] 43)).alloc (.cells #[] 43)) _ _ (by rfl) wd.heap.size 0 _ [] (by rfl) (own_emptyQ _ _ _ 7 _ (by simp) (by simp)) _ ps.length _ (ps.flatMap ParV.cells) (by rfl) (pd.out.rd.below (by first | exact (Below.refl _ _).alloc (by omega) _ | exact ((Below.refl _ _).alloc (by omega) _).alloc (by simp; omega) _)) L9.out O9.out (by unfold maxLen; omega) (by omega) (by simp only [World.size_alloc]; omega) ?_
            intro A8 c8 wa hown8 hg8 hf8
            simp only [Nat.zero_add, List.nil_append] at hown8 ⊢
            have hne8 : ∀ q, q < wd.heap.size → (Value.slice A8 ps.length c8).ownBlock ≠ some q := fun q hq e => by have := (hown8.lt q e).1; omega
            refine hK9.out _ _ (⟨((hHeld.1.alloc _).alloc _).grown hg8 (fun e => by have h1 := Option.some.inj e; simp at h1; omega), ((hHeld.2.alloc _).alloc _).grown hg8 (fun e => by have h1 := Option.some.inj e; simp at h1; omega)⟩) (fun hHeld9 => ?_)
            clear hK9 K9
            (try simp only [List.getElem_toArray, List.getElem_cons_zero, List.getElem_cons_succ, Act.put, List.setIfInBounds_toArray, List.set_cons_zero, List.set_cons_succ])
            have hbx : Off (fun i => i = g) wd wa := (((Off.refl (fun i => i = g) wd).alloc (.cells #[.slice A1 pc.wd.length c1, .int .i64 pc.we, .slice A2 pc.wx.length c2, .slice A3 pc.m.length c3, .slice A4 pc.bd.length c4, .int .i64 pc.be, .slice A5 pc.bx.length c5] 43)).alloc (.cells #[] 43)).grown hg8 (fun k hk => .inr (by have hk2 := Option.some.inj hk; simp at hk2; omega))
            have kzz := Lib.hid (((Blk.fresh wd 43 [.slice A1 pc.wd.length c1, .int .i64 pc.we, .slice A2 pc.wx.length c2, .slice A3 pc.m.length c3, .slice A4 pc.bd.length c4, .int .i64 pc.be, .slice A5 pc.bx.length c5]).alloc _).grown hg8 (fun e => by have h1 := Option.some.inj e; simp at h1))
            have ow8 := Lib.hid (hown8)
            have sz9 := hbx.size
            have hst : Blk wa w.heap.size 25 [.int .u64 seed, .int .i64 step, .slice A ps.length k] ∧ Blk wa (w.heap.size + 1) 43 [.slice A1 pc.wd.length c1, .int .i64 pc.we, .slice A2 pc.wx.length c2, .slice A3 pc.m.length c3, .slice A4 pc.bd.length c4, .int .i64 pc.be, .slice A5 pc.bx.length c5] := ⟨((hHeld.1.alloc _).alloc _).grown hg8 (fun e => by have h1 := Option.some.inj e; simp at h1; omega), ((hHeld.2.alloc _).alloc _).grown hg8 (fun e => by have h1 := Option.some.inj e; simp at h1; omega)⟩
            have gz := Lib.hid (((gd.out.alloc (.cells #[.slice A1 pc.wd.length c1, .int .i64 pc.we, .slice A2 pc.wx.length c2, .slice A3 pc.m.length c3, .slice A4 pc.bd.length c4, .int .i64 pc.be, .slice A5 pc.bx.length c5] 43)).alloc (.cells #[] 43)).grown hg8 (fun e => by have h1 := Option.some.inj e; simp at h1; omega))
            have hbx2 := Lib.hid hbx
            clear hbx
            generalize wa = wz at kzz ow8 sz9 hst gz hbx2 hHeld9 ⊢
            refine wpAnyH_ready (rs := [6]) (by kernel_rfl) (by simp) ?_
            refine AllReadyH.cons rfl (fun K9 hK9 => ?_) AllReadyH.nil
            (try simp only [List.getElem_toArray, List.getElem_cons_zero, List.getElem_cons_succ])
            rw [if_pos (by rfl)]
            refine wp_extendN elem_par wz _ _ (by rfl) wd.heap.size ps.length _ _ (by rfl) ow8.out _ 1 _ [.slice A1 pc.wd.length c1, .int .i64 pc.we, .slice A2 pc.wx.length c2, .slice A3 pc.m.length c3, .slice A4 pc.bd.length c4, .int .i64 pc.be, .slice A5 pc.bx.length c5] (by rfl) (kzz.out.readsN (sz := 7) (n := 1) rfl (by unfold maxLen; omega)) rfl (by intro u hu; simp only [List.mem_cons, List.not_mem_nil, or_false] at hu; rcases hu with rfl | rfl | rfl | rfl | rfl | rfl | rfl <;> rfl) (by unfold maxLen; omega) (by omega) sz9 ?_
            intro A9 c9 w9 hown9 hg9 hf9
            have hlo8 : ∀ q, q < wd.heap.size → (Value.slice A8 ps.length c8).ownBlock ≠ some q := fun q hq e => by have := (ow8.out.lt q e).1; omega
            have h90 := hst.1.grown hg9 (fun e => hlo8 _ (by omega) e.symm)
            have h91 := hst.2.grown hg9 (fun e => hlo8 _ (by omega) e.symm)
            have h92 := gz.out.grown hg9 (fun e => hlo8 _ hz3 e.symm)
            have hbo := hbx2.out.grown hg9 (fun k hk => .inr (by have := (ow8.out.lt k hk).1; omega))
            have q2 := h92.cell 2
            have f2 := h92.free 2
            have l2' := h92.lt
            simp only [List.getElem?_cons_zero, List.getElem?_cons_succ] at q2
            refine hK9.out _ _ (⟨h90, h91⟩) (fun hHeld9 => ?_)
            clear hK9 K9
            (try simp only [List.getElem_toArray, List.getElem_cons_zero, List.getElem_cons_succ, Act.put, List.setIfInBounds_toArray, List.set_cons_zero, List.set_cons_succ])
            refine' wpAnyH_take (i := 7) (v := _) rfl (by kernel_rfl) (by kernel_rfl) (by kernel_rfl) (fun _ _ _ h => h) (Or.inl ⟨by rfl, ?taq6⟩) (by assumption) ?tbq6
            case taq6 =>
              intro wS hSw
              (try dsimp only at hSw)
              go_simp
              (try (with_reducible rfl))
            (try simp only [List.getElem_toArray, List.getElem_cons_zero, List.getElem_cons_succ, Act.put, List.setIfInBounds_toArray, List.set_cons_zero, List.set_cons_succ])
            have hkk := h92.put 2 (.slice A9 (ps.length + 1) c9)
            simp only [List.set_cons_succ, List.set_cons_zero] at hkk
            have hob := hbo.setCell (p := ⟨g, 2, none⟩) (.inl rfl) (.slice A9 (ps.length + 1) c9)
            have hoo := own_off hown9 ((Off.refl (fun i => i = g) w9).setCell (p := ⟨g, 2, none⟩) (.inl rfl) (.slice A9 (ps.length + 1) c9)) (fun k hk => by have := (hown9.lt k hk).1; show ¬ k = g; omega)
            have e9 : ps.flatMap ParV.cells ++ [.slice A1 pc.wd.length c1, .int .i64 pc.we, .slice A2 pc.wx.length c2, .slice A3 pc.m.length c3, .slice A4 pc.bd.length c4, .int .i64 pc.be, .slice A5 pc.bx.length c5] = (ps ++ [(⟨.slice A1 pc.wd.length c1, .slice A2 pc.wx.length c2, .slice A3 pc.m.length c3, .slice A4 pc.bd.length c4, .slice A5 pc.bx.length c5, pc⟩ : ParV)]).flatMap ParV.cells := by rw [List.flatMap_append]; rfl
            rw [e9] at hoo
            have h90' := h90.far (p := ⟨g, 2, none⟩) (by show w.heap.size ≠ g; omega) (.slice A9 (ps.length + 1) c9)
            have h91' := h91.far (p := ⟨g, 2, none⟩) (by show w.heap.size + 1 ≠ g; omega) (.slice A9 (ps.length + 1) c9)
            refine wpAnyH_ready (rs := [8]) (by kernel_rfl) (by simp) ?_
            refine AllReadyH.cons rfl (fun K9 hK9 => ?_) AllReadyH.nil
            (try simp only [List.getElem_toArray, List.getElem_cons_zero, List.getElem_cons_succ])
            go_simp
            refine hK9.out _ _ ((by first | exact ⟨h90', h91'⟩ | exact ⟨h90'.drew, h91'.drew⟩)) (fun hHeld9 => ?_)
            clear hK9 K9
            (try simp only [List.getElem_toArray, List.getElem_cons_zero, List.getElem_cons_succ, Act.put, List.setIfInBounds_toArray, List.set_cons_zero, List.set_cons_succ])
            refine wpAnyH_done (by kernel_rfl) ?_ _
            clear q2 f2 l2' h92 h90 h91 h90' h91' hst hHeld9
            go_wp2_with fail
            go_meet
            case rel => exact ⟨rfl, HOFD.out.trans hob (fun i hi => .inl hi), A9, c9, hkk, by rw [hzd]; exact hoo⟩
        case rest =>
          obtain ⟨rfl, hoff, Aq, cq, hkq, hoq⟩ := hcut
          have HOFF := Lib.hid hoff
          have HG4 := Lib.hid hkq
          have HO4 := Lib.hid hoq
          have hz4 := hoff.size
          have s3 := HB3.out.size
          have HK4 := Lib.hid (HK3.out.off hoff (by show ¬ _ = _; omega))
          have HJ4 := Lib.hid (HJ3.out.off hoff (by show ¬ _ = _; omega))
          have HB4 := Lib.hid (HB3.out.trans (hoff.below (B := w.heap.size) (by omega) (fun i hi => by omega)))
          have s4 := HB4.out.size
          clear hoff hkq hoq HK3 HJ3 HB3 HG3 HP3
          have HQ4 : Hid (ParsOf wc wc.heap.size (.slice Aq (ps.length + 1) cq) (ps ++ [(⟨.slice A1 pc.wd.length c1, .slice A2 pc.wx.length c2, .slice A3 pc.m.length c3, .slice A4 pc.bd.length c4, .slice A5 pc.bx.length c5, pc⟩ : ParV)])) := Lib.hid (by
            refine ⟨ReadsN.of_own (by omega) HO4.out, Lib.hid (fun e he => ?_), ⟨_, _, by rw [List.length_append]; rfl⟩, by simp only [List.length_append, List.length_cons, List.length_nil]; omega⟩
            rcases List.mem_append.1 he with he | he
            · exact ((HPX.out.below HB4.out).ok.out e he).more s4
            · rw [List.mem_singleton.1 he]
              exact (HOK.out.below HB4.out).more s4)
          have HT4 : Hid (StOf wc wc.heap.size (.agg #[.int .u64 seed, .int .i64 step, .slice Aq (ps.length + 1) cq]) ⟨seed, step, .slice Aq (ps.length + 1) cq, ps ++ [(⟨.slice A1 pc.wd.length c1, .slice A2 pc.wx.length c2, .slice A3 pc.m.length c3, .slice A4 pc.bd.length c4, .slice A5 pc.bx.length c5, pc⟩ : ParV)]⟩) := Lib.hid ⟨rfl, HY.out.seed, HY.out.step, HQ4.out⟩
          have l4 := HK4.out.lt
          have j4 := HJ4.out.lt
          have g4 := HG4.out.lt
          clear HO4 HQ4 HOFF
          have m0 := HK4.out.cell 0
          have m1 := HK4.out.cell 1
          have m2 := HK4.out.cell 2
          simp only [List.getElem?_cons_zero, List.getElem?_cons_succ] at m0 m1 m2
          go_wp2_with fail
          refine (cenc_any _ ⟨seed, step, .slice A ps.length k, ps⟩ wc w.heap.size s4 (HY.out.below HB4.out)).mono ?_
          rintro en w5 ⟨hb5, hcase⟩
          have HJ5 := Lib.hid (HJ4.out.below hb5 j4)
          have HG5 := Lib.hid (HG4.out.below hb5 g4)
          have HB5 := Lib.hid (HB4.out.trans (hb5.mono s4))
          have HT5 := Lib.hid ((HT4.out.below hb5).more hb5.size)
          have s5 := HB5.out.size
          have j5 := HJ5.out.lt
          have g5 := HG5.out.lt
          clear hb5 HK4 HJ4 HG4 HB4 HT4 l4 j4 g4 m0 m1 m2
          rcases hcase with ⟨hm, rfl⟩ | ⟨hm, Aa, ca, rfl, hown5⟩
          · have HM := Lib.hid hm
            clear hm
            have m0 := HG5.out.cell 0
            have m1 := HG5.out.cell 1
            have m2 := HG5.out.cell 2
            simp only [List.getElem?_cons_zero, List.getElem?_cons_succ] at m0 m1 m2
            go_wp2_with fail
            refine (cenc_any _ _ w5 w5.heap.size (Nat.le_refl _) HT5.out).mono ?_
            rintro en w6 ⟨hb6, ⟨hm6, rfl⟩ | ⟨hm6, _⟩⟩
            · have HB6 := Lib.hid (HB5.out.trans (hb6.mono s5))
              clear hb6 hm6 m0 m1 m2
              go_wp2_with (go_at_call 9; refine (awake24_any _).mono ?_; rintro en w' ⟨rfl, hb9⟩)
              go_ret
              exact ⟨rfl, HB6.out.trans (hb9.mono HB6.out.size)⟩
            · have h := (mayS_more (v := .slice A ps.length k) hm6).1
              rw [HM.out] at h
              cases h
          · have HR5 := Lib.hid (Reads.of_own hown5)
            have HO5 := Lib.hid hown5
            clear hm hown5
            have m0 := HG5.out.cell 0
            have m1 := HG5.out.cell 1
            have m2 := HG5.out.cell 2
            simp only [List.getElem?_cons_zero, List.getElem?_cons_succ] at m0 m1 m2
            go_wp2_with fail
            refine (cenc_any _ _ w5 w5.heap.size (Nat.le_refl _) HT5.out).mono ?_
            rintro en w6 ⟨hb6, ⟨hm6, rfl⟩ | ⟨hm6, Ab, cb, rfl, hown6⟩⟩
            · have HB6 := Lib.hid (HB5.out.trans (hb6.mono s5))
              clear hb6 hm6 m0 m1 m2
              go_wp2_with (go_at_call 9; refine (awake24_any _).mono ?_; rintro en w' ⟨rfl, hb9⟩)
              go_ret
              exact ⟨rfl, HB6.out.trans (hb9.mono HB6.out.size)⟩
            · obtain ⟨hms, hmc⟩ := mayS_more (v := .slice A ps.length k) hm6
              have HB6 := Lib.hid (HB5.out.trans (hb6.mono s5))
              have HJ6 := Lib.hid (HJ5.out.below hb6 j5)
              have HO6 := Lib.hid (own_off HO5.out (Off.of_below hb6 (S := fun i => w5.heap.size ≤ i) (fun i hi => .inl hi)) (fun k hk => by have := (HO5.out.lt k hk).2; omega))
              have s6 := HB6.out.size
              have j6 := HJ6.out.lt
              obtain ⟨ea, eb⟩ := encS_more seed step (.slice A ps.length k) (.slice Aq (ps.length + 1) cq) ps (⟨.slice A1 pc.wd.length c1, .slice A2 pc.wx.length c2, .slice A3 pc.m.length c3, .slice A4 pc.bd.length c4, .slice A5 pc.bx.length c5, pc⟩ : ParV)
              rw [ea] at HO6
              rw [eb] at hown6
              rw [ea, eb]
              have HLE := Lib.hid (lenE_eq hmc)
              have HOb := Lib.hid hown6
              have hln1 := length_encP hmc
              clear hb6 hown6 hm6 hmc ea eb HB5 HJ5 HG5 HT5 HR5 HO5 j5 g5 s5 m0 m1 m2
              dsimp only at HLE hln1
              rw [enc1_byte _ (by omega), enc1_byte _ (by omega)] at *
              have hbody : ((ps.map (·.c)).flatMap encP).length ≤ 1000000 := by
                have h1 := mayS_of hms
                have h2 := length_encPs (cs := ps.map (·.c)) (fun c hc => by
                  obtain ⟨q, hq, rfl⟩ := List.mem_map.1 hc
                  exact h1.2.2 q hq)
                rw [List.length_map] at h2
                omega
              obtain ⟨pr, hpr⟩ : ∃ pr, pre16 seed step = pr := ⟨_, rfl⟩
              obtain ⟨body, hbd⟩ : ∃ body, (ps.map (·.c)).flatMap encP = body := ⟨_, rfl⟩
              obtain ⟨ep, hep⟩ : ∃ ep, encP pc = ep := ⟨_, rfl⟩
              have hpl : pr.length = 16 := by rw [← hpr]; exact length_pre16 _ _
              rw [hpr, hbd] at HO6 HOb ⊢
              rw [hep] at HOb HLE hln1 ⊢
              rw [hbd] at hbody
              clear hpr hbd hep hms
              have hep1 : 1 ≤ ep.length := by rw [HLE.out]; unfold lenE; split <;> omega
              obtain ⟨na, hna⟩ : ∃ n, (pr ++ ([UInt8.ofNat ps.length] ++ body)).length = n := ⟨_, rfl⟩
              obtain ⟨nB, hnB⟩ : ∃ n, (pr ++ ([UInt8.ofNat (ps.length + 1)] ++ (body ++ ep))).length = n := ⟨_, rfl⟩
              rw [hna] at HO6 ⊢
              rw [hnB] at HOb ⊢
              simp only [List.length_append, List.length_cons, List.length_nil, hpl] at hna hnB
              have hnn : nB = na + ep.length := by omega
              have hn17 : 17 ≤ na := by omega
              have hnx : na ≤ 1000017 := by omega
              have hnx2 : nB ≤ 1100017 := by omega
              have HNB : Hid (body.length = na - 17) := Lib.hid (by omega)
              obtain ⟨ga, cx0, resta, ea, hga, hla, hnca, hcma, _, _, hba⟩ := own_blkN HO6.out (by omega)
              injection ea with ea1 _ ea3
              subst ea1 ea3
              obtain ⟨gb, cy0, restb, eb, hgb, hlb, hncb, hcmb, _, _, hbb⟩ := own_blkN HOb.out (by omega)
              injection eb with eb1 _ eb3
              subst eb1 eb3
              have hN1 : (UInt8.ofNat ps.length).toNat = ps.length := by simp; omega
              have hN2 : (UInt8.ofNat (ps.length + 1)).toNat = ps.length + 1 := by simp; omega
              have ca16 : w6.cell? ⟨ga, 16, none⟩ = some (.int .u8 (ps.length : Int)) := by
                rw [hba.cell, List.getElem?_append_left (by rw [length_bytesV]; simp [hpl]), bytesV, List.getElem?_map, List.getElem?_append_right (by omega), hpl]
                simp only [Nat.sub_self, List.cons_append, List.nil_append, List.getElem?_cons_zero, Option.map_some, hN1]
              have cb16 : w6.cell? ⟨gb, 16, none⟩ = some (.int .u8 ((ps.length : Int) + 1)) := by
                rw [hbb.cell, List.getElem?_append_left (by rw [length_bytesV]; simp [hpl]), bytesV, List.getElem?_map, List.getElem?_append_right (by omega), hpl]
                simp only [Nat.sub_self, List.cons_append, List.nil_append, List.getElem?_cons_zero, Option.map_some, hN2]
                simp
              have RA := (ReadsN.of_one (Reads.of_own HO6.out))
              have RB := (ReadsN.of_one (Reads.of_own HOb.out))
              have ra16 := (RA.take (k := 16) (by omega)).one
              have rb16 := (RB.take (k := 16) (by omega)).one
              rw [Nat.mul_one, bytesV_take, ← hpl, List.take_left] at ra16 rb16
              have rbm0 := (Reads.of_own HOb.out).others (k := 17) (by omega) 17 (fun _ => rfl)
              have rbm := ((ReadsN.of_one rbm0).take (k := na - 17) (by omega)).one
              have hdb : (bytesV (pr ++ ([UInt8.ofNat (ps.length + 1)] ++ (body ++ ep)))).drop 17 = bytesV (body ++ ep) := by
                rw [bytesV_drop, drop17 hpl]
              have hda : (bytesV (pr ++ ([UInt8.ofNat ps.length] ++ body))).drop 17 = bytesV body := by
                rw [bytesV_drop, drop17 hpl]
              rw [hdb, Nat.mul_one, bytesV_take, ← HNB.out, List.take_left, HNB.out] at rbm
              have ra17 : ∀ o', (17 < ca → o' = 17) → Reads w6 w6.heap.size (.slice (some ⟨ga, o', none⟩) (na - 17) (ca - 17)) (bytesV body) := fun o' ho => by
                have h := (Reads.of_own HO6.out).others (k := 17) (by omega) o' (fun h => by rw [ho h])
                rw [hda] at h
                exact h
              rw [hpl] at ra16 rb16
              have HRA := Lib.hid ra17
              have HPC : Hid (Below w.heap.size w w6 ∧ w6.cell? ⟨ga, 16, none⟩ = some (.int .u8 (ps.length : Int)) ∧ w6.cell? ⟨gb, 16, none⟩ = some (.int .u8 ((ps.length : Int) + 1)) ∧ Reads w6 w6.heap.size (.slice (some ⟨ga, 0, none⟩) 16 ca) (bytesV pr) ∧ Reads w6 w6.heap.size (.slice (some ⟨gb, 0, none⟩) 16 cb) (bytesV pr) ∧ Reads w6 w6.heap.size (.slice (some ⟨gb, 17, none⟩) (na - 17) (cb - 17)) (bytesV body)) := Lib.hid ⟨HB6.out, ca16, cb16, ra16, rb16, rbm⟩
              clear ca16 cb16 RA RB ra16 rb16 rbm0 rbm hdb hda ra17 hba hbb HO6 HOb hga hgb hna hnB hpl hN1 hN2 hcma hcmb hbody
              have HLB := Lib.hid hnn
              clear hnn
              have u0 := HJ6.out.cell 0
              have u1 := HJ6.out.cell 1
              have u2 := HJ6.out.cell 2
              have u3 := HJ6.out.cell 3
              have u4 := HJ6.out.cell 4
              have u5 := HJ6.out.cell 5
              have u6 := HJ6.out.cell 6
              simp only [List.getElem?_cons_zero, List.getElem?_cons_succ] at u0 u1 u2 u3 u4 u5 u6
              dsimp only
              obtain ⟨wn, hwn⟩ : ∃ n, pc.wd.length = n := ⟨_, rfl⟩
              have HWN := Lib.hid hwn
              rw [hwn] at u0 ⊢
              clear hwn
              go_upto_if 76 with fail
              go_cut [10] (fun s wx => s = .int .i64 (ep.length : Int) ∧ wx = w6)
              case first =>
                by_cases hw0 : wn = 0
                · have t1 : decide ((0 : Int) < (wn : Int)) = false := decide_eq_false (by omega)
                  have t1' : decide (0 < wn) = false := decide_eq_false (by omega)
                  have HE1 : Hid (ep.length = 1) := Lib.hid (by rw [HLE.out]; unfold lenE; rw [if_pos (by rw [HWN.out]; exact hw0)])
                  subst hw0
                  clear t1 t1'
                  go_wp2_with fail
                  go_meet
                  case rel => exact ⟨by rw [HE1.out]; rfl, rfl⟩
                · have t1 : decide ((0 : Int) < (wn : Int)) = true := decide_eq_true (by omega)
                  have t1' : decide (0 < wn) = true := decide_eq_true (by omega)
                  have HE1 : Hid ((ep.length : Int) = 1 + 2 * (wn : Int) + 1 + (pc.wx.length : Int) + 4 * (pc.m.length : Int) + 2 + 1 + (pc.bx.length : Int)) := Lib.hid (by rw [HLE.out]; unfold lenE; rw [if_neg (by rw [HWN.out]; exact hw0), HWN.out]; push_cast; omega)
                  have hpos : 0 < wn := by omega
                  have hpos2 : (0 : Int) < (wn : Int) := by omega
                  have hwd4 : wn ≤ 50000 := by have := HE1.out; omega
                  have hwx4 : pc.wx.length ≤ 50000 := by have := HE1.out; omega
                  have hwm4 : pc.m.length ≤ 50000 := by have := HE1.out; omega
                  have hwb4 : pc.bx.length ≤ 50000 := by have := HE1.out; omega
                  clear hw0
                  go_wp2_with fail
                  go_meet
                  case rel => exact ⟨by rw [HE1.out], rfl⟩
              case rest =>
                obtain ⟨rfl, hw⟩ := hcut
                have hw := hw.symm
                subst hw
                clear u0 u1 u2 u3 u4 u5 u6 HJ6 j6
                have eS : IntKind.i64.wrap ((na : Int) + (ep.length : Int)) = (nB : Int) := by rw [IntWalk.i64_in _ (by omega), HLB.out]; push_cast; rfl
                have eN : IntKind.i64.wrap (ps.length : Int) = (ps.length : Int) := IntWalk.i64_in _ (by omega)
                have eN1 : IntKind.i64.wrap ((ps.length : Int) + 1) = (ps.length : Int) + 1 := IntWalk.i64_in _ (by omega)
                have t17 : decide (17 ≤ (na : Int)) = true := decide_eq_true (by omega)
                have t17' : decide (17 ≤ na) = true := decide_eq_true hn17
                have tnb : ((nB : Int) == (nB : Int)) = true := by simp
                have tps : (((ps.length : Int) + 1) == ((ps.length : Int) + 1)) = true := by simp
                have hnn2 : na + 1 ≤ nB := by have := HLB.out; omega
                have i1 : (17 : Int) ≤ (na : Int) := by omega
                have i2 : (na : Int) ≤ (ca : Int) := by omega
                have i3 : (na : Int) ≤ (cb : Int) := by omega
                have i4 : (nB : Int) ≤ (cb : Int) := by omega
                have i5 : na ≤ cb := by omega
                have i6 : (16 : Int) ≤ (ca : Int) := by omega
                have i7 : (16 : Int) ≤ (cb : Int) := by omega
                have i8 : 16 ≤ ca := by omega
                have i9 : 16 ≤ cb := by omega
                have i10 : (16 : Int) < (na : Int) := by omega
                have i11 : (16 : Int) < (nB : Int) := by omega
                have i12 : na ≤ nB := by omega
                have i13 : 17 < cb := by omega
                have i14 : ¬ cb = 17 := by omega
                have i15 : (17 : Int) ≤ (cb : Int) := by omega
                have i16 : (17 : Int) ≤ (ca : Int) := by omega
                have r17 : decide ((17 : Int) ≤ 17) = true := rfl
                have hga6 := HPC.out.2.1
                by_cases hc17 : ca = 17
                · have i17 : (na : Int) ≤ 17 := by omega
                  have i18 : na ≤ 17 := by omega
                  go_upto_region 12 with fail
                  have hP := HPC.out
                  have hR := HRA.out 0 (fun h => by omega)
                  rw [show ca - 17 = 0 by omega] at hR
                  rw [hc17] at hP
                  rw [show na - 17 = 0 by omega] at hP hR
                  refine wp_region_held_drew (S := ((fun w' => Below w.heap.size w w' ∧ w'.cell? ⟨ga, 16, none⟩ = some (.int .u8 (ps.length : Int)) ∧ w'.cell? ⟨gb, 16, none⟩ = some (.int .u8 ((ps.length : Int) + 1)) ∧ Reads w' w6.heap.size (.slice (some ⟨ga, 0, none⟩) 16 17) (bytesV pr) ∧ Reads w' w6.heap.size (.slice (some ⟨gb, 0, none⟩) 16 cb) (bytesV pr) ∧ Reads w' w6.heap.size (.slice (some ⟨gb, 17, none⟩) 0 (cb - 17)) (bytesV body) ∧ Reads w' w6.heap.size (.slice (some ⟨ga, 0, none⟩) 0 0) (bytesV body) ∧ ga < w'.heap.size ∧ gb < w'.heap.size ∧ w6.heap.size ≤ w'.heap.size))) (by kernel_rfl) (⟨hP.1.drew, hP.2.1, hP.2.2.1, hP.2.2.2.1.drew, hP.2.2.2.2.1.drew, hP.2.2.2.2.2.drew, hR.drew, hla, hlb, Nat.le_refl _⟩) (fun hHeld => ?_)
                  clear hP hR HPC HRA hga6
                  refine' wpAnyH_take (i := 0) (v := _) rfl (by kernel_rfl) (by kernel_rfl) (by kernel_rfl) (fun _ _ _ h => h) (Or.inl ⟨by rfl, ?taq7⟩) (by assumption) ?tbq7
                  case taq7 =>
                    intro wS hSw
                    (try dsimp only at hSw)
                    (have c16 := hSw.2.1; have d16 := hSw.2.2.1; have z1 := run_str_k hSw.2.2.2.1; have z2 := run_str_k hSw.2.2.2.2.1; have z3 := run_str_k hSw.2.2.2.2.2.1; have z4 := run_str_k hSw.2.2.2.2.2.2.1; have la := hSw.2.2.2.2.2.2.2.1; have lb := hSw.2.2.2.2.2.2.2.2.1; clear hSw; go_simp)
                    (try (with_reducible rfl))
                  (try simp only [List.getElem_toArray, List.getElem_cons_zero, List.getElem_cons_succ, Act.put, List.setIfInBounds_toArray, List.set_cons_zero, List.set_cons_succ])
                  refine' wpAnyH_take (i := 1) (v := _) rfl (by kernel_rfl) (by kernel_rfl) (by kernel_rfl) (fun _ _ _ h => h) (Or.inl ⟨by rfl, ?taq8⟩) (by assumption) ?tbq8
                  case taq8 =>
                    intro wS hSw
                    (try dsimp only at hSw)
                    (have c16 := hSw.2.1; have d16 := hSw.2.2.1; have z1 := run_str_k hSw.2.2.2.1; have z2 := run_str_k hSw.2.2.2.2.1; have z3 := run_str_k hSw.2.2.2.2.2.1; have z4 := run_str_k hSw.2.2.2.2.2.2.1; have la := hSw.2.2.2.2.2.2.2.1; have lb := hSw.2.2.2.2.2.2.2.2.1; clear hSw; go_simp)
                    (try (with_reducible rfl))
                  (try simp only [List.getElem_toArray, List.getElem_cons_zero, List.getElem_cons_succ, Act.put, List.setIfInBounds_toArray, List.set_cons_zero, List.set_cons_succ])
                  refine' wpAnyH_take (i := 2) (v := _) rfl (by kernel_rfl) (by kernel_rfl) (by kernel_rfl) (fun _ _ _ h => h) (Or.inl ⟨by rfl, ?taq9⟩) (by assumption) ?tbq9
                  case taq9 =>
                    intro wS hSw
                    (try dsimp only at hSw)
                    (have c16 := hSw.2.1; have d16 := hSw.2.2.1; have z1 := run_str_k hSw.2.2.2.1; have z2 := run_str_k hSw.2.2.2.2.1; have z3 := run_str_k hSw.2.2.2.2.2.1; have z4 := run_str_k hSw.2.2.2.2.2.2.1; have la := hSw.2.2.2.2.2.2.2.1; have lb := hSw.2.2.2.2.2.2.2.2.1; clear hSw; go_simp)
                    (try (with_reducible rfl))
                  (try simp only [List.getElem_toArray, List.getElem_cons_zero, List.getElem_cons_succ, Act.put, List.setIfInBounds_toArray, List.set_cons_zero, List.set_cons_succ])
                  refine' wpAnyH_take (i := 3) (v := _) rfl (by kernel_rfl) (by kernel_rfl) (by kernel_rfl) (fun _ _ _ h => h) (Or.inl ⟨by rfl, ?taq10⟩) (by assumption) ?tbq10
                  case taq10 =>
                    intro wS hSw
                    (try dsimp only at hSw)
                    (have c16 := hSw.2.1; have d16 := hSw.2.2.1; have z1 := run_str_k hSw.2.2.2.1; have z2 := run_str_k hSw.2.2.2.2.1; have z3 := run_str_k hSw.2.2.2.2.2.1; have z4 := run_str_k hSw.2.2.2.2.2.2.1; have la := hSw.2.2.2.2.2.2.2.1; have lb := hSw.2.2.2.2.2.2.2.2.1; clear hSw; go_simp)
                    (try (with_reducible rfl))
                  (try simp only [List.getElem_toArray, List.getElem_cons_zero, List.getElem_cons_succ, Act.put, List.setIfInBounds_toArray, List.set_cons_zero, List.set_cons_succ])
                  refine' wpAnyH_take (i := 4) (v := _) rfl (by kernel_rfl) (by kernel_rfl) (by kernel_rfl) (fun _ _ _ h => h) (Or.inl ⟨by rfl, ?taq11⟩) (by assumption) ?tbq11
                  case taq11 =>
                    intro wS hSw
                    (try dsimp only at hSw)
                    (have c16 := hSw.2.1; have d16 := hSw.2.2.1; have z1 := run_str_k hSw.2.2.2.1; have z2 := run_str_k hSw.2.2.2.2.1; have z3 := run_str_k hSw.2.2.2.2.2.1; have z4 := run_str_k hSw.2.2.2.2.2.2.1; have la := hSw.2.2.2.2.2.2.2.1; have lb := hSw.2.2.2.2.2.2.2.2.1; clear hSw; go_simp)
                    (try (with_reducible rfl))
                  (try simp only [List.getElem_toArray, List.getElem_cons_zero, List.getElem_cons_succ, Act.put, List.setIfInBounds_toArray, List.set_cons_zero, List.set_cons_succ])
                  refine' wpAnyH_take (i := 5) (v := _) rfl (by kernel_rfl) (by kernel_rfl) (by kernel_rfl) (fun _ _ _ h => h) (Or.inl ⟨by rfl, ?taq12⟩) (by assumption) ?tbq12
                  case taq12 =>
                    intro wS hSw
                    (try dsimp only at hSw)
                    (have c16 := hSw.2.1; have d16 := hSw.2.2.1; have z1 := run_str_k hSw.2.2.2.1; have z2 := run_str_k hSw.2.2.2.2.1; have z3 := run_str_k hSw.2.2.2.2.2.1; have z4 := run_str_k hSw.2.2.2.2.2.2.1; have la := hSw.2.2.2.2.2.2.2.1; have lb := hSw.2.2.2.2.2.2.2.2.1; clear hSw; go_simp)
                    (try (with_reducible rfl))
                  (try simp only [List.getElem_toArray, List.getElem_cons_zero, List.getElem_cons_succ, Act.put, List.setIfInBounds_toArray, List.set_cons_zero, List.set_cons_succ])
                  refine' wpAnyH_take (i := 6) (v := _) rfl (by kernel_rfl) (by kernel_rfl) (by kernel_rfl) (fun _ _ _ h => h) (Or.inl ⟨by rfl, ?taq13⟩) (by assumption) ?tbq13
                  case taq13 =>
                    intro wS hSw
                    (try dsimp only at hSw)
                    (have c16 := hSw.2.1; have d16 := hSw.2.2.1; have z1 := run_str_k hSw.2.2.2.1; have z2 := run_str_k hSw.2.2.2.2.1; have z3 := run_str_k hSw.2.2.2.2.2.1; have z4 := run_str_k hSw.2.2.2.2.2.2.1; have la := hSw.2.2.2.2.2.2.2.1; have lb := hSw.2.2.2.2.2.2.2.2.1; clear hSw; go_simp)
                    (try (with_reducible rfl))
                  (try simp only [List.getElem_toArray, List.getElem_cons_zero, List.getElem_cons_succ, Act.put, List.setIfInBounds_toArray, List.set_cons_zero, List.set_cons_succ])
                  refine' wpAnyH_take (i := 7) (v := _) rfl (by kernel_rfl) (by kernel_rfl) (by kernel_rfl) (fun _ _ _ h => h) (Or.inl ⟨by rfl, ?taq14⟩) (by assumption) ?tbq14
                  case taq14 =>
                    intro wS hSw
                    (try dsimp only at hSw)
                    (have c16 := hSw.2.1; have d16 := hSw.2.2.1; have z1 := run_str_k hSw.2.2.2.1; have z2 := run_str_k hSw.2.2.2.2.1; have z3 := run_str_k hSw.2.2.2.2.2.1; have z4 := run_str_k hSw.2.2.2.2.2.2.1; have la := hSw.2.2.2.2.2.2.2.1; have lb := hSw.2.2.2.2.2.2.2.2.1; clear hSw; go_simp)
                    (try (with_reducible rfl))
                  (try simp only [List.getElem_toArray, List.getElem_cons_zero, List.getElem_cons_succ, Act.put, List.setIfInBounds_toArray, List.set_cons_zero, List.set_cons_succ])
                  refine' wpAnyH_take (i := 8) (v := _) rfl (by kernel_rfl) (by kernel_rfl) (by kernel_rfl) (fun _ _ _ h => h) (Or.inl ⟨by rfl, ?taq15⟩) (by assumption) ?tbq15
                  case taq15 =>
                    intro wS hSw
                    (try dsimp only at hSw)
                    (have c16 := hSw.2.1; have d16 := hSw.2.2.1; have z1 := run_str_k hSw.2.2.2.1; have z2 := run_str_k hSw.2.2.2.2.1; have z3 := run_str_k hSw.2.2.2.2.2.1; have z4 := run_str_k hSw.2.2.2.2.2.2.1; have la := hSw.2.2.2.2.2.2.2.1; have lb := hSw.2.2.2.2.2.2.2.2.1; clear hSw; go_simp)
                    (try (with_reducible rfl))
                  (try simp only [List.getElem_toArray, List.getElem_cons_zero, List.getElem_cons_succ, Act.put, List.setIfInBounds_toArray, List.set_cons_zero, List.set_cons_succ])
                  refine' wpAnyH_take (i := 9) (v := _) rfl (by kernel_rfl) (by kernel_rfl) (by kernel_rfl) (fun _ _ _ h => h) (Or.inl ⟨by rfl, ?taq16⟩) (by assumption) ?tbq16
                  case taq16 =>
                    intro wS hSw
                    (try dsimp only at hSw)
                    (have c16 := hSw.2.1; have d16 := hSw.2.2.1; have z1 := run_str_k hSw.2.2.2.1; have z2 := run_str_k hSw.2.2.2.2.1; have z3 := run_str_k hSw.2.2.2.2.2.1; have z4 := run_str_k hSw.2.2.2.2.2.2.1; have la := hSw.2.2.2.2.2.2.2.1; have lb := hSw.2.2.2.2.2.2.2.2.1; clear hSw; go_simp)
                    (try (with_reducible rfl))
                  (try simp only [List.getElem_toArray, List.getElem_cons_zero, List.getElem_cons_succ, Act.put, List.setIfInBounds_toArray, List.set_cons_zero, List.set_cons_succ])
                  refine' wpAnyH_take (i := 10) (v := _) rfl (by kernel_rfl) (by kernel_rfl) (by kernel_rfl) (fun _ _ _ h => h) (Or.inl ⟨by rfl, ?taq17⟩) (by assumption) ?tbq17
                  case taq17 =>
                    intro wS hSw
                    (try dsimp only at hSw)
                    (have c16 := hSw.2.1; have d16 := hSw.2.2.1; have z1 := run_str_k hSw.2.2.2.1; have z2 := run_str_k hSw.2.2.2.2.1; have z3 := run_str_k hSw.2.2.2.2.2.1; have z4 := run_str_k hSw.2.2.2.2.2.2.1; have la := hSw.2.2.2.2.2.2.2.1; have lb := hSw.2.2.2.2.2.2.2.2.1; clear hSw; go_simp)
                    (try (with_reducible rfl))
                  (try simp only [List.getElem_toArray, List.getElem_cons_zero, List.getElem_cons_succ, Act.put, List.setIfInBounds_toArray, List.set_cons_zero, List.set_cons_succ])
                  refine' wpAnyH_take (i := 11) (v := _) rfl (by kernel_rfl) (by kernel_rfl) (by kernel_rfl) (fun _ _ _ h => h) (Or.inl ⟨by rfl, ?taq18⟩) (by assumption) ?tbq18
                  case taq18 =>
                    intro wS hSw
                    (try dsimp only at hSw)
                    (have c16 := hSw.2.1; have d16 := hSw.2.2.1; have z1 := run_str_k hSw.2.2.2.1; have z2 := run_str_k hSw.2.2.2.2.1; have z3 := run_str_k hSw.2.2.2.2.2.1; have z4 := run_str_k hSw.2.2.2.2.2.2.1; have la := hSw.2.2.2.2.2.2.2.1; have lb := hSw.2.2.2.2.2.2.2.2.1; clear hSw; go_simp)
                    (try (with_reducible rfl))
                  (try simp only [List.getElem_toArray, List.getElem_cons_zero, List.getElem_cons_succ, Act.put, List.setIfInBounds_toArray, List.set_cons_zero, List.set_cons_succ])
                  refine' wpAnyH_take (i := 12) (v := _) rfl (by kernel_rfl) (by kernel_rfl) (by kernel_rfl) (fun _ _ _ h => h) (Or.inl ⟨by rfl, ?taq19⟩) (by assumption) ?tbq19
                  case taq19 =>
                    intro wS hSw
                    (try dsimp only at hSw)
                    (have c16 := hSw.2.1; have d16 := hSw.2.2.1; have z1 := run_str_k hSw.2.2.2.1; have z2 := run_str_k hSw.2.2.2.2.1; have z3 := run_str_k hSw.2.2.2.2.2.1; have z4 := run_str_k hSw.2.2.2.2.2.2.1; have la := hSw.2.2.2.2.2.2.2.1; have lb := hSw.2.2.2.2.2.2.2.2.1; clear hSw; go_simp)
                    (try (with_reducible rfl))
                  (try simp only [List.getElem_toArray, List.getElem_cons_zero, List.getElem_cons_succ, Act.put, List.setIfInBounds_toArray, List.set_cons_zero, List.set_cons_succ])
                  refine' wpAnyH_take (i := 13) (v := _) rfl (by kernel_rfl) (by kernel_rfl) (by kernel_rfl) (fun _ _ _ h => h) (Or.inl ⟨by rfl, ?taq20⟩) (by assumption) ?tbq20
                  case taq20 =>
                    intro wS hSw
                    (try dsimp only at hSw)
                    (have c16 := hSw.2.1; have d16 := hSw.2.2.1; have z1 := run_str_k hSw.2.2.2.1; have z2 := run_str_k hSw.2.2.2.2.1; have z3 := run_str_k hSw.2.2.2.2.2.1; have z4 := run_str_k hSw.2.2.2.2.2.2.1; have la := hSw.2.2.2.2.2.2.2.1; have lb := hSw.2.2.2.2.2.2.2.2.1; clear hSw; go_simp)
                    (try (with_reducible rfl))
                  (try simp only [List.getElem_toArray, List.getElem_cons_zero, List.getElem_cons_succ, Act.put, List.setIfInBounds_toArray, List.set_cons_zero, List.set_cons_succ])
                  refine' wpAnyH_take (i := 14) (v := _) rfl (by kernel_rfl) (by kernel_rfl) (by kernel_rfl) (fun _ _ _ h => h) (Or.inl ⟨by rfl, ?taq21⟩) (by assumption) ?tbq21
                  case taq21 =>
                    intro wS hSw
                    (try dsimp only at hSw)
                    (have c16 := hSw.2.1; have d16 := hSw.2.2.1; have z1 := run_str_k hSw.2.2.2.1; have z2 := run_str_k hSw.2.2.2.2.1; have z3 := run_str_k hSw.2.2.2.2.2.1; have z4 := run_str_k hSw.2.2.2.2.2.2.1; have la := hSw.2.2.2.2.2.2.2.1; have lb := hSw.2.2.2.2.2.2.2.2.1; clear hSw; go_simp)
                    (try (with_reducible rfl))
                  (try simp only [List.getElem_toArray, List.getElem_cons_zero, List.getElem_cons_succ, Act.put, List.setIfInBounds_toArray, List.set_cons_zero, List.set_cons_succ])
                  refine' wpAnyH_take (i := 15) (v := _) rfl (by kernel_rfl) (by kernel_rfl) (by kernel_rfl) (fun _ _ _ h => h) (Or.inl ⟨by rfl, ?taq22⟩) (by assumption) ?tbq22
                  case taq22 =>
                    intro wS hSw
                    (try dsimp only at hSw)
                    (have c16 := hSw.2.1; have d16 := hSw.2.2.1; have z1 := run_str_k hSw.2.2.2.1; have z2 := run_str_k hSw.2.2.2.2.1; have z3 := run_str_k hSw.2.2.2.2.2.1; have z4 := run_str_k hSw.2.2.2.2.2.2.1; have la := hSw.2.2.2.2.2.2.2.1; have lb := hSw.2.2.2.2.2.2.2.2.1; clear hSw; go_simp)
                    (try (with_reducible rfl))
                  (try simp only [List.getElem_toArray, List.getElem_cons_zero, List.getElem_cons_succ, Act.put, List.setIfInBounds_toArray, List.set_cons_zero, List.set_cons_succ])
                  refine' wpAnyH_take (i := 16) (v := _) rfl (by kernel_rfl) (by kernel_rfl) (by kernel_rfl) (fun _ _ _ h => h) (Or.inl ⟨by rfl, ?taq23⟩) (by assumption) ?tbq23
                  case taq23 =>
                    intro wS hSw
                    (try dsimp only at hSw)
                    (have c16 := hSw.2.1; have d16 := hSw.2.2.1; have z1 := run_str_k hSw.2.2.2.1; have z2 := run_str_k hSw.2.2.2.2.1; have z3 := run_str_k hSw.2.2.2.2.2.1; have z4 := run_str_k hSw.2.2.2.2.2.2.1; have la := hSw.2.2.2.2.2.2.2.1; have lb := hSw.2.2.2.2.2.2.2.2.1; clear hSw; go_simp)
                    (try (with_reducible rfl))
                  (try simp only [List.getElem_toArray, List.getElem_cons_zero, List.getElem_cons_succ, Act.put, List.setIfInBounds_toArray, List.set_cons_zero, List.set_cons_succ])
                  refine' wpAnyH_take (i := 17) (v := _) rfl (by kernel_rfl) (by kernel_rfl) (by kernel_rfl) (fun _ _ _ h => h) (Or.inl ⟨by rfl, ?taq24⟩) (by assumption) ?tbq24
                  case taq24 =>
                    intro wS hSw
                    (try dsimp only at hSw)
                    (have c16 := hSw.2.1; have d16 := hSw.2.2.1; have z1 := run_str_k hSw.2.2.2.1; have z2 := run_str_k hSw.2.2.2.2.1; have z3 := run_str_k hSw.2.2.2.2.2.1; have z4 := run_str_k hSw.2.2.2.2.2.2.1; have la := hSw.2.2.2.2.2.2.2.1; have lb := hSw.2.2.2.2.2.2.2.2.1; clear hSw; go_simp)
                    (try (with_reducible rfl))
                  (try simp only [List.getElem_toArray, List.getElem_cons_zero, List.getElem_cons_succ, Act.put, List.setIfInBounds_toArray, List.set_cons_zero, List.set_cons_succ])
                  refine' wpAnyH_take (i := 18) (v := _) rfl (by kernel_rfl) (by kernel_rfl) (by kernel_rfl) (fun _ _ _ h => h) (Or.inl ⟨by rfl, ?taq25⟩) (by assumption) ?tbq25
                  case taq25 =>
                    intro wS hSw
                    (try dsimp only at hSw)
                    (have c16 := hSw.2.1; have d16 := hSw.2.2.1; have z1 := run_str_k hSw.2.2.2.1; have z2 := run_str_k hSw.2.2.2.2.1; have z3 := run_str_k hSw.2.2.2.2.2.1; have z4 := run_str_k hSw.2.2.2.2.2.2.1; have la := hSw.2.2.2.2.2.2.2.1; have lb := hSw.2.2.2.2.2.2.2.2.1; clear hSw; go_simp)
                    (try (with_reducible rfl))
                  (try simp only [List.getElem_toArray, List.getElem_cons_zero, List.getElem_cons_succ, Act.put, List.setIfInBounds_toArray, List.set_cons_zero, List.set_cons_succ])
                  refine' wpAnyH_take (i := 19) (v := _) rfl (by kernel_rfl) (by kernel_rfl) (by kernel_rfl) (fun _ _ _ h => h) (Or.inl ⟨by rfl, ?taq26⟩) (by assumption) ?tbq26
                  case taq26 =>
                    intro wS hSw
                    (try dsimp only at hSw)
                    (have c16 := hSw.2.1; have d16 := hSw.2.2.1; have z1 := run_str_k hSw.2.2.2.1; have z2 := run_str_k hSw.2.2.2.2.1; have z3 := run_str_k hSw.2.2.2.2.2.1; have z4 := run_str_k hSw.2.2.2.2.2.2.1; have la := hSw.2.2.2.2.2.2.2.1; have lb := hSw.2.2.2.2.2.2.2.2.1; clear hSw; go_simp)
                    (try (with_reducible rfl))
                  (try simp only [List.getElem_toArray, List.getElem_cons_zero, List.getElem_cons_succ, Act.put, List.setIfInBounds_toArray, List.set_cons_zero, List.set_cons_succ])
                  refine' wpAnyH_take (i := 20) (v := _) rfl (by kernel_rfl) (by kernel_rfl) (by kernel_rfl) (fun _ _ _ h => h) (Or.inl ⟨by rfl, ?taq27⟩) (by assumption) ?tbq27
                  case taq27 =>
                    intro wS hSw
                    (try dsimp only at hSw)
                    (have c16 := hSw.2.1; have d16 := hSw.2.2.1; have z1 := run_str_k hSw.2.2.2.1; have z2 := run_str_k hSw.2.2.2.2.1; have z3 := run_str_k hSw.2.2.2.2.2.1; have z4 := run_str_k hSw.2.2.2.2.2.2.1; have la := hSw.2.2.2.2.2.2.2.1; have lb := hSw.2.2.2.2.2.2.2.2.1; clear hSw; go_simp)
                    (try (with_reducible rfl))
                  (try simp only [List.getElem_toArray, List.getElem_cons_zero, List.getElem_cons_succ, Act.put, List.setIfInBounds_toArray, List.set_cons_zero, List.set_cons_succ])
                  refine' wpAnyH_take (i := 21) (v := _) rfl (by kernel_rfl) (by kernel_rfl) (by kernel_rfl) (fun _ _ _ h => h) (Or.inl ⟨by rfl, ?taq28⟩) (by assumption) ?tbq28
                  case taq28 =>
                    intro wS hSw
                    (try dsimp only at hSw)
                    (have c16 := hSw.2.1; have d16 := hSw.2.2.1; have z1 := run_str_k hSw.2.2.2.1; have z2 := run_str_k hSw.2.2.2.2.1; have z3 := run_str_k hSw.2.2.2.2.2.1; have z4 := run_str_k hSw.2.2.2.2.2.2.1; have la := hSw.2.2.2.2.2.2.2.1; have lb := hSw.2.2.2.2.2.2.2.2.1; clear hSw; go_simp)
                    (try (with_reducible rfl))
                  (try simp only [List.getElem_toArray, List.getElem_cons_zero, List.getElem_cons_succ, Act.put, List.setIfInBounds_toArray, List.set_cons_zero, List.set_cons_succ])
                  refine' wpAnyH_take (i := 22) (v := _) rfl (by kernel_rfl) (by kernel_rfl) (by kernel_rfl) (fun _ _ _ h => h) (Or.inl ⟨by rfl, ?taq29⟩) (by assumption) ?tbq29
                  case taq29 =>
                    intro wS hSw
                    (try dsimp only at hSw)
                    (have c16 := hSw.2.1; have d16 := hSw.2.2.1; have z1 := run_str_k hSw.2.2.2.1; have z2 := run_str_k hSw.2.2.2.2.1; have z3 := run_str_k hSw.2.2.2.2.2.1; have z4 := run_str_k hSw.2.2.2.2.2.2.1; have la := hSw.2.2.2.2.2.2.2.1; have lb := hSw.2.2.2.2.2.2.2.2.1; clear hSw; go_simp)
                    (try (with_reducible rfl))
                  (try simp only [List.getElem_toArray, List.getElem_cons_zero, List.getElem_cons_succ, Act.put, List.setIfInBounds_toArray, List.set_cons_zero, List.set_cons_succ])
                  refine' wpAnyH_take (i := 23) (v := _) rfl (by kernel_rfl) (by kernel_rfl) (by kernel_rfl) (fun _ _ _ h => h) (Or.inl ⟨by rfl, ?taq30⟩) (by assumption) ?tbq30
                  case taq30 =>
                    intro wS hSw
                    (try dsimp only at hSw)
                    (have c16 := hSw.2.1; have d16 := hSw.2.2.1; have z1 := run_str_k hSw.2.2.2.1; have z2 := run_str_k hSw.2.2.2.2.1; have z3 := run_str_k hSw.2.2.2.2.2.1; have z4 := run_str_k hSw.2.2.2.2.2.2.1; have la := hSw.2.2.2.2.2.2.2.1; have lb := hSw.2.2.2.2.2.2.2.2.1; clear hSw; go_simp)
                    (try (with_reducible rfl))
                  (try simp only [List.getElem_toArray, List.getElem_cons_zero, List.getElem_cons_succ, Act.put, List.setIfInBounds_toArray, List.set_cons_zero, List.set_cons_succ])
                  refine' wpAnyH_take (i := 24) (v := _) rfl (by kernel_rfl) (by kernel_rfl) (by kernel_rfl) (fun _ _ _ h => h) (Or.inl ⟨by rfl, ?taq31⟩) (by assumption) ?tbq31
                  case taq31 =>
                    intro wS hSw
                    (try dsimp only at hSw)
                    (have c16 := hSw.2.1; have d16 := hSw.2.2.1; have z1 := run_str_k hSw.2.2.2.1; have z2 := run_str_k hSw.2.2.2.2.1; have z3 := run_str_k hSw.2.2.2.2.2.1; have z4 := run_str_k hSw.2.2.2.2.2.2.1; have la := hSw.2.2.2.2.2.2.2.1; have lb := hSw.2.2.2.2.2.2.2.2.1; clear hSw; go_simp)
                    (try (with_reducible rfl))
                  (try simp only [List.getElem_toArray, List.getElem_cons_zero, List.getElem_cons_succ, Act.put, List.setIfInBounds_toArray, List.set_cons_zero, List.set_cons_succ])
                  refine' wpAnyH_take (i := 25) (v := _) rfl (by kernel_rfl) (by kernel_rfl) (by kernel_rfl) (fun _ _ _ h => h) (Or.inl ⟨by rfl, ?taq32⟩) (by assumption) ?tbq32
                  case taq32 =>
                    intro wS hSw
                    (try dsimp only at hSw)
                    (have c16 := hSw.2.1; have d16 := hSw.2.2.1; have z1 := run_str_k hSw.2.2.2.1; have z2 := run_str_k hSw.2.2.2.2.1; have z3 := run_str_k hSw.2.2.2.2.2.1; have z4 := run_str_k hSw.2.2.2.2.2.2.1; have la := hSw.2.2.2.2.2.2.2.1; have lb := hSw.2.2.2.2.2.2.2.2.1; clear hSw; go_simp)
                    (try (with_reducible rfl))
                  (try simp only [List.getElem_toArray, List.getElem_cons_zero, List.getElem_cons_succ, Act.put, List.setIfInBounds_toArray, List.set_cons_zero, List.set_cons_succ])
                  refine' wpAnyH_take (i := 26) (v := _) rfl (by kernel_rfl) (by kernel_rfl) (by kernel_rfl) (fun _ _ _ h => h) (Or.inl ⟨by rfl, ?taq33⟩) (by assumption) ?tbq33
                  case taq33 =>
                    intro wS hSw
                    (try dsimp only at hSw)
                    (have c16 := hSw.2.1; have d16 := hSw.2.2.1; have z1 := run_str_k hSw.2.2.2.1; have z2 := run_str_k hSw.2.2.2.2.1; have z3 := run_str_k hSw.2.2.2.2.2.1; have z4 := run_str_k hSw.2.2.2.2.2.2.1; have la := hSw.2.2.2.2.2.2.2.1; have lb := hSw.2.2.2.2.2.2.2.2.1; clear hSw; go_simp)
                    (try (with_reducible rfl))
                  (try simp only [List.getElem_toArray, List.getElem_cons_zero, List.getElem_cons_succ, Act.put, List.setIfInBounds_toArray, List.set_cons_zero, List.set_cons_succ])
                  refine' wpAnyH_take (i := 27) (v := _) rfl (by kernel_rfl) (by kernel_rfl) (by kernel_rfl) (fun _ _ _ h => h) (Or.inl ⟨by rfl, ?taq34⟩) (by assumption) ?tbq34
                  case taq34 =>
                    intro wS hSw
                    (try dsimp only at hSw)
                    (have c16 := hSw.2.1; have d16 := hSw.2.2.1; have z1 := run_str_k hSw.2.2.2.1; have z2 := run_str_k hSw.2.2.2.2.1; have z3 := run_str_k hSw.2.2.2.2.2.1; have z4 := run_str_k hSw.2.2.2.2.2.2.1; have la := hSw.2.2.2.2.2.2.2.1; have lb := hSw.2.2.2.2.2.2.2.2.1; clear hSw; go_simp)
                    (try (with_reducible rfl))
                  (try simp only [List.getElem_toArray, List.getElem_cons_zero, List.getElem_cons_succ, Act.put, List.setIfInBounds_toArray, List.set_cons_zero, List.set_cons_succ])
                  refine' wpAnyH_take (i := 28) (v := _) rfl (by kernel_rfl) (by kernel_rfl) (by kernel_rfl) (fun _ _ _ h => h) (Or.inl ⟨by rfl, ?taq35⟩) (by assumption) ?tbq35
                  case taq35 =>
                    intro wS hSw
                    (try dsimp only at hSw)
                    (have c16 := hSw.2.1; have d16 := hSw.2.2.1; have z1 := run_str_k hSw.2.2.2.1; have z2 := run_str_k hSw.2.2.2.2.1; have z3 := run_str_k hSw.2.2.2.2.2.1; have z4 := run_str_k hSw.2.2.2.2.2.2.1; have la := hSw.2.2.2.2.2.2.2.1; have lb := hSw.2.2.2.2.2.2.2.2.1; clear hSw; go_simp)
                    (try (with_reducible rfl))
                  (try simp only [List.getElem_toArray, List.getElem_cons_zero, List.getElem_cons_succ, Act.put, List.setIfInBounds_toArray, List.set_cons_zero, List.set_cons_succ])
                  refine' wpAnyH_take (i := 29) (v := _) rfl (by kernel_rfl) (by kernel_rfl) (by kernel_rfl) (fun _ _ _ h => h) (Or.inl ⟨by rfl, ?taq36⟩) (by assumption) ?tbq36
                  case taq36 =>
                    intro wS hSw
                    (try dsimp only at hSw)
                    (have c16 := hSw.2.1; have d16 := hSw.2.2.1; have z1 := run_str_k hSw.2.2.2.1; have z2 := run_str_k hSw.2.2.2.2.1; have z3 := run_str_k hSw.2.2.2.2.2.1; have z4 := run_str_k hSw.2.2.2.2.2.2.1; have la := hSw.2.2.2.2.2.2.2.1; have lb := hSw.2.2.2.2.2.2.2.2.1; clear hSw; go_simp)
                    (try (with_reducible rfl))
                  (try simp only [List.getElem_toArray, List.getElem_cons_zero, List.getElem_cons_succ, Act.put, List.setIfInBounds_toArray, List.set_cons_zero, List.set_cons_succ])
                  refine' wpAnyH_take (i := 30) (v := _) rfl (by kernel_rfl) (by kernel_rfl) (by kernel_rfl) (fun _ _ _ h => h) (Or.inl ⟨by rfl, ?taq37⟩) (by assumption) ?tbq37
                  case taq37 =>
                    intro wS hSw
                    (try dsimp only at hSw)
                    (have c16 := hSw.2.1; have d16 := hSw.2.2.1; have z1 := run_str_k hSw.2.2.2.1; have z2 := run_str_k hSw.2.2.2.2.1; have z3 := run_str_k hSw.2.2.2.2.2.1; have z4 := run_str_k hSw.2.2.2.2.2.2.1; have la := hSw.2.2.2.2.2.2.2.1; have lb := hSw.2.2.2.2.2.2.2.2.1; clear hSw; go_simp)
                    (try (with_reducible rfl))
                  (try simp only [List.getElem_toArray, List.getElem_cons_zero, List.getElem_cons_succ, Act.put, List.setIfInBounds_toArray, List.set_cons_zero, List.set_cons_succ])
                  refine' wpAnyH_take (i := 31) (v := _) rfl (by kernel_rfl) (by kernel_rfl) (by kernel_rfl) (fun _ _ _ h => h) (Or.inl ⟨by rfl, ?taq38⟩) (by assumption) ?tbq38
                  case taq38 =>
                    intro wS hSw
                    (try dsimp only at hSw)
                    (have c16 := hSw.2.1; have d16 := hSw.2.2.1; have z1 := run_str_k hSw.2.2.2.1; have z2 := run_str_k hSw.2.2.2.2.1; have z3 := run_str_k hSw.2.2.2.2.2.1; have z4 := run_str_k hSw.2.2.2.2.2.2.1; have la := hSw.2.2.2.2.2.2.2.1; have lb := hSw.2.2.2.2.2.2.2.2.1; clear hSw; go_simp)
                    (try (with_reducible rfl))
                  (try simp only [List.getElem_toArray, List.getElem_cons_zero, List.getElem_cons_succ, Act.put, List.setIfInBounds_toArray, List.set_cons_zero, List.set_cons_succ])
                  refine' wpAnyH_take (i := 32) (v := _) rfl (by kernel_rfl) (by kernel_rfl) (by kernel_rfl) (fun _ _ _ h => h) (Or.inl ⟨by rfl, ?taq39⟩) (by assumption) ?tbq39
                  case taq39 =>
                    intro wS hSw
                    (try dsimp only at hSw)
                    (have c16 := hSw.2.1; have d16 := hSw.2.2.1; have z1 := run_str_k hSw.2.2.2.1; have z2 := run_str_k hSw.2.2.2.2.1; have z3 := run_str_k hSw.2.2.2.2.2.1; have z4 := run_str_k hSw.2.2.2.2.2.2.1; have la := hSw.2.2.2.2.2.2.2.1; have lb := hSw.2.2.2.2.2.2.2.2.1; clear hSw; go_simp)
                    (try (with_reducible rfl))
                  (try simp only [List.getElem_toArray, List.getElem_cons_zero, List.getElem_cons_succ, Act.put, List.setIfInBounds_toArray, List.set_cons_zero, List.set_cons_succ])
                  refine' wpAnyH_take (i := 33) (v := _) rfl (by kernel_rfl) (by kernel_rfl) (by kernel_rfl) (fun _ _ _ h => h) (Or.inl ⟨by rfl, ?taq40⟩) (by assumption) ?tbq40
                  case taq40 =>
                    intro wS hSw
                    (try dsimp only at hSw)
                    (have c16 := hSw.2.1; have d16 := hSw.2.2.1; have z1 := run_str_k hSw.2.2.2.1; have z2 := run_str_k hSw.2.2.2.2.1; have z3 := run_str_k hSw.2.2.2.2.2.1; have z4 := run_str_k hSw.2.2.2.2.2.2.1; have la := hSw.2.2.2.2.2.2.2.1; have lb := hSw.2.2.2.2.2.2.2.2.1; clear hSw; go_simp)
                    (try (with_reducible rfl))
                  (try simp only [List.getElem_toArray, List.getElem_cons_zero, List.getElem_cons_succ, Act.put, List.setIfInBounds_toArray, List.set_cons_zero, List.set_cons_succ])
                  refine' wpAnyH_take (i := 34) (v := _) rfl (by kernel_rfl) (by kernel_rfl) (by kernel_rfl) (fun _ _ _ h => h) (Or.inl ⟨by rfl, ?taq41⟩) (by assumption) ?tbq41
                  case taq41 =>
                    intro wS hSw
                    (try dsimp only at hSw)
                    (have c16 := hSw.2.1; have d16 := hSw.2.2.1; have z1 := run_str_k hSw.2.2.2.1; have z2 := run_str_k hSw.2.2.2.2.1; have z3 := run_str_k hSw.2.2.2.2.2.1; have z4 := run_str_k hSw.2.2.2.2.2.2.1; have la := hSw.2.2.2.2.2.2.2.1; have lb := hSw.2.2.2.2.2.2.2.2.1; clear hSw; go_simp)
                    (try (with_reducible rfl))
                  (try simp only [List.getElem_toArray, List.getElem_cons_zero, List.getElem_cons_succ, Act.put, List.setIfInBounds_toArray, List.set_cons_zero, List.set_cons_succ])
                  refine' wpAnyH_take (i := 35) (v := _) rfl (by kernel_rfl) (by kernel_rfl) (by kernel_rfl) (fun _ _ _ h => h) (Or.inl ⟨by rfl, ?taq42⟩) (by assumption) ?tbq42
                  case taq42 =>
                    intro wS hSw
                    (try dsimp only at hSw)
                    (have c16 := hSw.2.1; have d16 := hSw.2.2.1; have z1 := run_str_k hSw.2.2.2.1; have z2 := run_str_k hSw.2.2.2.2.1; have z3 := run_str_k hSw.2.2.2.2.2.1; have z4 := run_str_k hSw.2.2.2.2.2.2.1; have la := hSw.2.2.2.2.2.2.2.1; have lb := hSw.2.2.2.2.2.2.2.2.1; clear hSw; go_simp)
                    (try (with_reducible rfl))
                  (try simp only [List.getElem_toArray, List.getElem_cons_zero, List.getElem_cons_succ, Act.put, List.setIfInBounds_toArray, List.set_cons_zero, List.set_cons_succ])
                  refine' wpAnyH_take (i := 36) (v := _) rfl (by kernel_rfl) (by kernel_rfl) (by kernel_rfl) (fun _ _ _ h => h) (Or.inl ⟨by rfl, ?taq43⟩) (by assumption) ?tbq43
                  case taq43 =>
                    intro wS hSw
                    (try dsimp only at hSw)
                    (have c16 := hSw.2.1; have d16 := hSw.2.2.1; have z1 := run_str_k hSw.2.2.2.1; have z2 := run_str_k hSw.2.2.2.2.1; have z3 := run_str_k hSw.2.2.2.2.2.1; have z4 := run_str_k hSw.2.2.2.2.2.2.1; have la := hSw.2.2.2.2.2.2.2.1; have lb := hSw.2.2.2.2.2.2.2.2.1; clear hSw; go_simp)
                    (try (with_reducible rfl))
                  (try simp only [List.getElem_toArray, List.getElem_cons_zero, List.getElem_cons_succ, Act.put, List.setIfInBounds_toArray, List.set_cons_zero, List.set_cons_succ])
                  refine' wpAnyH_take (i := 37) (v := _) rfl (by kernel_rfl) (by kernel_rfl) (by kernel_rfl) (fun _ _ _ h => h) (Or.inl ⟨by rfl, ?taq44⟩) (by assumption) ?tbq44
                  case taq44 =>
                    intro wS hSw
                    (try dsimp only at hSw)
                    (have c16 := hSw.2.1; have d16 := hSw.2.2.1; have z1 := run_str_k hSw.2.2.2.1; have z2 := run_str_k hSw.2.2.2.2.1; have z3 := run_str_k hSw.2.2.2.2.2.1; have z4 := run_str_k hSw.2.2.2.2.2.2.1; have la := hSw.2.2.2.2.2.2.2.1; have lb := hSw.2.2.2.2.2.2.2.2.1; clear hSw; go_simp)
                    (try (with_reducible rfl))
                  (try simp only [List.getElem_toArray, List.getElem_cons_zero, List.getElem_cons_succ, Act.put, List.setIfInBounds_toArray, List.set_cons_zero, List.set_cons_succ])
                  refine' wpAnyH_take (i := 38) (v := _) rfl (by kernel_rfl) (by kernel_rfl) (by kernel_rfl) (fun _ _ _ h => h) (Or.inl ⟨by rfl, ?taq45⟩) (by assumption) ?tbq45
                  case taq45 =>
                    intro wS hSw
                    (try dsimp only at hSw)
                    (have c16 := hSw.2.1; have d16 := hSw.2.2.1; have z1 := run_str_k hSw.2.2.2.1; have z2 := run_str_k hSw.2.2.2.2.1; have z3 := run_str_k hSw.2.2.2.2.2.1; have z4 := run_str_k hSw.2.2.2.2.2.2.1; have la := hSw.2.2.2.2.2.2.2.1; have lb := hSw.2.2.2.2.2.2.2.2.1; clear hSw; go_simp)
                    (try (with_reducible rfl))
                  (try simp only [List.getElem_toArray, List.getElem_cons_zero, List.getElem_cons_succ, Act.put, List.setIfInBounds_toArray, List.set_cons_zero, List.set_cons_succ])
                  refine' wpAnyH_take (i := 39) (v := _) rfl (by kernel_rfl) (by kernel_rfl) (by kernel_rfl) (fun _ _ _ h => h) (Or.inl ⟨by rfl, ?taq46⟩) (by assumption) ?tbq46
                  case taq46 =>
                    intro wS hSw
                    (try dsimp only at hSw)
                    (have c16 := hSw.2.1; have d16 := hSw.2.2.1; have z1 := run_str_k hSw.2.2.2.1; have z2 := run_str_k hSw.2.2.2.2.1; have z3 := run_str_k hSw.2.2.2.2.2.1; have z4 := run_str_k hSw.2.2.2.2.2.2.1; have la := hSw.2.2.2.2.2.2.2.1; have lb := hSw.2.2.2.2.2.2.2.2.1; clear hSw; go_simp)
                    (try (with_reducible rfl))
                  (try simp only [List.getElem_toArray, List.getElem_cons_zero, List.getElem_cons_succ, Act.put, List.setIfInBounds_toArray, List.set_cons_zero, List.set_cons_succ])
                  refine' wpAnyH_take (i := 40) (v := _) rfl (by kernel_rfl) (by kernel_rfl) (by kernel_rfl) (fun _ _ _ h => h) (Or.inl ⟨by rfl, ?taq47⟩) (by assumption) ?tbq47
                  case taq47 =>
                    intro wS hSw
                    (try dsimp only at hSw)
                    (have c16 := hSw.2.1; have d16 := hSw.2.2.1; have z1 := run_str_k hSw.2.2.2.1; have z2 := run_str_k hSw.2.2.2.2.1; have z3 := run_str_k hSw.2.2.2.2.2.1; have z4 := run_str_k hSw.2.2.2.2.2.2.1; have la := hSw.2.2.2.2.2.2.2.1; have lb := hSw.2.2.2.2.2.2.2.2.1; clear hSw; go_simp)
                    (try (with_reducible rfl))
                  (try simp only [List.getElem_toArray, List.getElem_cons_zero, List.getElem_cons_succ, Act.put, List.setIfInBounds_toArray, List.set_cons_zero, List.set_cons_succ])
                  refine' wpAnyH_take (i := 41) (v := _) rfl (by kernel_rfl) (by kernel_rfl) (by kernel_rfl) (fun _ _ _ h => h) (Or.inl ⟨by rfl, ?taq48⟩) (by assumption) ?tbq48
                  case taq48 =>
                    intro wS hSw
                    (try dsimp only at hSw)
                    (have c16 := hSw.2.1; have d16 := hSw.2.2.1; have z1 := run_str_k hSw.2.2.2.1; have z2 := run_str_k hSw.2.2.2.2.1; have z3 := run_str_k hSw.2.2.2.2.2.1; have z4 := run_str_k hSw.2.2.2.2.2.2.1; have la := hSw.2.2.2.2.2.2.2.1; have lb := hSw.2.2.2.2.2.2.2.2.1; clear hSw; go_simp)
                    (try (with_reducible rfl))
                  (try simp only [List.getElem_toArray, List.getElem_cons_zero, List.getElem_cons_succ, Act.put, List.setIfInBounds_toArray, List.set_cons_zero, List.set_cons_succ])
                  refine' wpAnyH_take (i := 42) (v := _) rfl (by kernel_rfl) (by kernel_rfl) (by kernel_rfl) (fun _ _ _ h => h) (Or.inl ⟨by rfl, ?taq49⟩) (by assumption) ?tbq49
                  case taq49 =>
                    intro wS hSw
                    (try dsimp only at hSw)
                    (have c16 := hSw.2.1; have d16 := hSw.2.2.1; have z1 := run_str_k hSw.2.2.2.1; have z2 := run_str_k hSw.2.2.2.2.1; have z3 := run_str_k hSw.2.2.2.2.2.1; have z4 := run_str_k hSw.2.2.2.2.2.2.1; have la := hSw.2.2.2.2.2.2.2.1; have lb := hSw.2.2.2.2.2.2.2.2.1; clear hSw; go_simp)
                    (try (with_reducible rfl))
                  (try simp only [List.getElem_toArray, List.getElem_cons_zero, List.getElem_cons_succ, Act.put, List.setIfInBounds_toArray, List.set_cons_zero, List.set_cons_succ])
                  refine' wpAnyH_take (i := 43) (v := _) rfl (by kernel_rfl) (by kernel_rfl) (by kernel_rfl) (fun _ _ _ h => h) (Or.inl ⟨by rfl, ?taq50⟩) (by assumption) ?tbq50
                  case taq50 =>
                    intro wS hSw
                    (try dsimp only at hSw)
                    (have c16 := hSw.2.1; have d16 := hSw.2.2.1; have z1 := run_str_k hSw.2.2.2.1; have z2 := run_str_k hSw.2.2.2.2.1; have z3 := run_str_k hSw.2.2.2.2.2.1; have z4 := run_str_k hSw.2.2.2.2.2.2.1; have la := hSw.2.2.2.2.2.2.2.1; have lb := hSw.2.2.2.2.2.2.2.2.1; clear hSw; go_simp)
                    (try (with_reducible rfl))
                  (try simp only [List.getElem_toArray, List.getElem_cons_zero, List.getElem_cons_succ, Act.put, List.setIfInBounds_toArray, List.set_cons_zero, List.set_cons_succ])
                  refine' wpAnyH_take (i := 44) (v := _) rfl (by kernel_rfl) (by kernel_rfl) (by kernel_rfl) (fun _ _ _ h => h) (Or.inl ⟨by rfl, ?taq51⟩) (by assumption) ?tbq51
                  case taq51 =>
                    intro wS hSw
                    (try dsimp only at hSw)
                    (have c16 := hSw.2.1; have d16 := hSw.2.2.1; have z1 := run_str_k hSw.2.2.2.1; have z2 := run_str_k hSw.2.2.2.2.1; have z3 := run_str_k hSw.2.2.2.2.2.1; have z4 := run_str_k hSw.2.2.2.2.2.2.1; have la := hSw.2.2.2.2.2.2.2.1; have lb := hSw.2.2.2.2.2.2.2.2.1; clear hSw; go_simp)
                    (try (with_reducible rfl))
                  (try simp only [List.getElem_toArray, List.getElem_cons_zero, List.getElem_cons_succ, Act.put, List.setIfInBounds_toArray, List.set_cons_zero, List.set_cons_succ])
                  refine wpAnyH_ready (rs := [45]) (by kernel_rfl) (by simp) ?_
                  refine AllReadyH.cons rfl (fun K9 hK9 => ?_) AllReadyH.nil
                  (try simp only [List.getElem_toArray, List.getElem_cons_zero, List.getElem_cons_succ])
                  go_simp
                  refine (awake24_any _).mono ?_
                  rintro en wz ⟨rfl, hbz⟩
                  have hBz := hHeld.1.trans (hbz.mono hHeld.1.size)
                  refine hK9.out _ _ (⟨hBz, (hbz.cell (p := ⟨ga, 16, none⟩) hHeld.2.2.2.2.2.2.2.1).trans hHeld.2.1, (hbz.cell (p := ⟨gb, 16, none⟩) hHeld.2.2.2.2.2.2.2.2.1).trans hHeld.2.2.1, hHeld.2.2.2.1.below (hbz.mono hHeld.2.2.2.2.2.2.2.2.2), hHeld.2.2.2.2.1.below (hbz.mono hHeld.2.2.2.2.2.2.2.2.2), hHeld.2.2.2.2.2.1.below (hbz.mono hHeld.2.2.2.2.2.2.2.2.2), hHeld.2.2.2.2.2.2.1.below (hbz.mono hHeld.2.2.2.2.2.2.2.2.2), Nat.lt_of_lt_of_le hHeld.2.2.2.2.2.2.2.1 hbz.size, Nat.lt_of_lt_of_le hHeld.2.2.2.2.2.2.2.2.1 hbz.size, Nat.le_trans hHeld.2.2.2.2.2.2.2.2.2 hbz.size⟩) (fun hHeld9 => ?_)
                  clear hK9 K9
                  (try simp only [List.getElem_toArray, List.getElem_cons_zero, List.getElem_cons_succ, Act.put, List.setIfInBounds_toArray, List.set_cons_zero, List.set_cons_succ])
                  clear hbz
                  refine' wpAnyH_take (i := 46) (v := _) rfl (by kernel_rfl) (by kernel_rfl) (by kernel_rfl) (fun _ _ _ h => h) (Or.inl ⟨by rfl, ?taq52⟩) (by assumption) ?tbq52
                  case taq52 =>
                    intro wS hSw
                    (try dsimp only at hSw)
                    go_simp
                    (try (with_reducible rfl))
                  (try simp only [List.getElem_toArray, List.getElem_cons_zero, List.getElem_cons_succ, Act.put, List.setIfInBounds_toArray, List.set_cons_zero, List.set_cons_succ])
                  refine' wpAnyH_take (i := 47) (v := _) rfl (by kernel_rfl) (by kernel_rfl) (by kernel_rfl) (fun _ _ _ h => h) (Or.inl ⟨by rfl, ?taq53⟩) (by assumption) ?tbq53
                  case taq53 =>
                    intro wS hSw
                    (try dsimp only at hSw)
                    go_simp
                    (try (with_reducible rfl))
                  (try simp only [List.getElem_toArray, List.getElem_cons_zero, List.getElem_cons_succ, Act.put, List.setIfInBounds_toArray, List.set_cons_zero, List.set_cons_succ])
                  refine wpAnyH_done (by kernel_rfl) ?_ _
                  clear hHeld9 hHeld
                  go_wp2_with fail
                  go_ret
                  exact ⟨rfl, hBz⟩
                · have hc18 : 17 < ca := by omega
                  go_upto_region 12 with fail
                  have hP := HPC.out
                  have hR := HRA.out 17 (fun h => by omega)
                  refine wp_region_held_drew (S := ((fun w' => Below w.heap.size w w' ∧ w'.cell? ⟨ga, 16, none⟩ = some (.int .u8 (ps.length : Int)) ∧ w'.cell? ⟨gb, 16, none⟩ = some (.int .u8 ((ps.length : Int) + 1)) ∧ Reads w' w6.heap.size (.slice (some ⟨ga, 0, none⟩) 16 ca) (bytesV pr) ∧ Reads w' w6.heap.size (.slice (some ⟨gb, 0, none⟩) 16 cb) (bytesV pr) ∧ Reads w' w6.heap.size (.slice (some ⟨gb, 17, none⟩) (na - 17) (cb - 17)) (bytesV body) ∧ Reads w' w6.heap.size (.slice (some ⟨ga, 17, none⟩) (na - 17) (ca - 17)) (bytesV body) ∧ ga < w'.heap.size ∧ gb < w'.heap.size ∧ w6.heap.size ≤ w'.heap.size))) (by kernel_rfl) (⟨hP.1.drew, hP.2.1, hP.2.2.1, hP.2.2.2.1.drew, hP.2.2.2.2.1.drew, hP.2.2.2.2.2.drew, hR.drew, hla, hlb, Nat.le_refl _⟩) (fun hHeld => ?_)
                  clear hP hR HPC HRA hga6
                  refine' wpAnyH_take (i := 0) (v := _) rfl (by kernel_rfl) (by kernel_rfl) (by kernel_rfl) (fun _ _ _ h => h) (Or.inl ⟨by rfl, ?taq54⟩) (by assumption) ?tbq54
                  case taq54 =>
                    intro wS hSw
                    (try dsimp only at hSw)
                    (have c16 := hSw.2.1; have d16 := hSw.2.2.1; have z1 := run_str_k hSw.2.2.2.1; have z2 := run_str_k hSw.2.2.2.2.1; have z3 := run_str_k hSw.2.2.2.2.2.1; have z4 := run_str_k hSw.2.2.2.2.2.2.1; have la := hSw.2.2.2.2.2.2.2.1; have lb := hSw.2.2.2.2.2.2.2.2.1; clear hSw; go_simp)
                    (try (with_reducible rfl))
                  (try simp only [List.getElem_toArray, List.getElem_cons_zero, List.getElem_cons_succ, Act.put, List.setIfInBounds_toArray, List.set_cons_zero, List.set_cons_succ])
                  refine' wpAnyH_take (i := 1) (v := _) rfl (by kernel_rfl) (by kernel_rfl) (by kernel_rfl) (fun _ _ _ h => h) (Or.inl ⟨by rfl, ?taq55⟩) (by assumption) ?tbq55
                  case taq55 =>
                    intro wS hSw
                    (try dsimp only at hSw)
                    (have c16 := hSw.2.1; have d16 := hSw.2.2.1; have z1 := run_str_k hSw.2.2.2.1; have z2 := run_str_k hSw.2.2.2.2.1; have z3 := run_str_k hSw.2.2.2.2.2.1; have z4 := run_str_k hSw.2.2.2.2.2.2.1; have la := hSw.2.2.2.2.2.2.2.1; have lb := hSw.2.2.2.2.2.2.2.2.1; clear hSw; go_simp)
                    (try (with_reducible rfl))
                  (try simp only [List.getElem_toArray, List.getElem_cons_zero, List.getElem_cons_succ, Act.put, List.setIfInBounds_toArray, List.set_cons_zero, List.set_cons_succ])
                  refine' wpAnyH_take (i := 2) (v := _) rfl (by kernel_rfl) (by kernel_rfl) (by kernel_rfl) (fun _ _ _ h => h) (Or.inl ⟨by rfl, ?taq56⟩) (by assumption) ?tbq56
                  case taq56 =>
                    intro wS hSw
                    (try dsimp only at hSw)
                    (have c16 := hSw.2.1; have d16 := hSw.2.2.1; have z1 := run_str_k hSw.2.2.2.1; have z2 := run_str_k hSw.2.2.2.2.1; have z3 := run_str_k hSw.2.2.2.2.2.1; have z4 := run_str_k hSw.2.2.2.2.2.2.1; have la := hSw.2.2.2.2.2.2.2.1; have lb := hSw.2.2.2.2.2.2.2.2.1; clear hSw; go_simp)
                    (try (with_reducible rfl))
                  (try simp only [List.getElem_toArray, List.getElem_cons_zero, List.getElem_cons_succ, Act.put, List.setIfInBounds_toArray, List.set_cons_zero, List.set_cons_succ])
                  refine' wpAnyH_take (i := 3) (v := _) rfl (by kernel_rfl) (by kernel_rfl) (by kernel_rfl) (fun _ _ _ h => h) (Or.inl ⟨by rfl, ?taq57⟩) (by assumption) ?tbq57
                  case taq57 =>
                    intro wS hSw
                    (try dsimp only at hSw)
                    (have c16 := hSw.2.1; have d16 := hSw.2.2.1; have z1 := run_str_k hSw.2.2.2.1; have z2 := run_str_k hSw.2.2.2.2.1; have z3 := run_str_k hSw.2.2.2.2.2.1; have z4 := run_str_k hSw.2.2.2.2.2.2.1; have la := hSw.2.2.2.2.2.2.2.1; have lb := hSw.2.2.2.2.2.2.2.2.1; clear hSw; go_simp)
                    (try (with_reducible rfl))
                  (try simp only [List.getElem_toArray, List.getElem_cons_zero, List.getElem_cons_succ, Act.put, List.setIfInBounds_toArray, List.set_cons_zero, List.set_cons_succ])
                  refine' wpAnyH_take (i := 4) (v := _) rfl (by kernel_rfl) (by kernel_rfl) (by kernel_rfl) (fun _ _ _ h => h) (Or.inl ⟨by rfl, ?taq58⟩) (by assumption) ?tbq58
                  case taq58 =>
                    intro wS hSw
                    (try dsimp only at hSw)
                    (have c16 := hSw.2.1; have d16 := hSw.2.2.1; have z1 := run_str_k hSw.2.2.2.1; have z2 := run_str_k hSw.2.2.2.2.1; have z3 := run_str_k hSw.2.2.2.2.2.1; have z4 := run_str_k hSw.2.2.2.2.2.2.1; have la := hSw.2.2.2.2.2.2.2.1; have lb := hSw.2.2.2.2.2.2.2.2.1; clear hSw; go_simp)
                    (try (with_reducible rfl))
                  (try simp only [List.getElem_toArray, List.getElem_cons_zero, List.getElem_cons_succ, Act.put, List.setIfInBounds_toArray, List.set_cons_zero, List.set_cons_succ])
                  refine' wpAnyH_take (i := 5) (v := _) rfl (by kernel_rfl) (by kernel_rfl) (by kernel_rfl) (fun _ _ _ h => h) (Or.inl ⟨by rfl, ?taq59⟩) (by assumption) ?tbq59
                  case taq59 =>
                    intro wS hSw
                    (try dsimp only at hSw)
                    (have c16 := hSw.2.1; have d16 := hSw.2.2.1; have z1 := run_str_k hSw.2.2.2.1; have z2 := run_str_k hSw.2.2.2.2.1; have z3 := run_str_k hSw.2.2.2.2.2.1; have z4 := run_str_k hSw.2.2.2.2.2.2.1; have la := hSw.2.2.2.2.2.2.2.1; have lb := hSw.2.2.2.2.2.2.2.2.1; clear hSw; go_simp)
                    (try (with_reducible rfl))
                  (try simp only [List.getElem_toArray, List.getElem_cons_zero, List.getElem_cons_succ, Act.put, List.setIfInBounds_toArray, List.set_cons_zero, List.set_cons_succ])
                  refine' wpAnyH_take (i := 6) (v := _) rfl (by kernel_rfl) (by kernel_rfl) (by kernel_rfl) (fun _ _ _ h => h) (Or.inl ⟨by rfl, ?taq60⟩) (by assumption) ?tbq60
                  case taq60 =>
                    intro wS hSw
                    (try dsimp only at hSw)
                    (have c16 := hSw.2.1; have d16 := hSw.2.2.1; have z1 := run_str_k hSw.2.2.2.1; have z2 := run_str_k hSw.2.2.2.2.1; have z3 := run_str_k hSw.2.2.2.2.2.1; have z4 := run_str_k hSw.2.2.2.2.2.2.1; have la := hSw.2.2.2.2.2.2.2.1; have lb := hSw.2.2.2.2.2.2.2.2.1; clear hSw; go_simp)
                    (try (with_reducible rfl))
                  (try simp only [List.getElem_toArray, List.getElem_cons_zero, List.getElem_cons_succ, Act.put, List.setIfInBounds_toArray, List.set_cons_zero, List.set_cons_succ])
                  refine' wpAnyH_take (i := 7) (v := _) rfl (by kernel_rfl) (by kernel_rfl) (by kernel_rfl) (fun _ _ _ h => h) (Or.inl ⟨by rfl, ?taq61⟩) (by assumption) ?tbq61
                  case taq61 =>
                    intro wS hSw
                    (try dsimp only at hSw)
                    (have c16 := hSw.2.1; have d16 := hSw.2.2.1; have z1 := run_str_k hSw.2.2.2.1; have z2 := run_str_k hSw.2.2.2.2.1; have z3 := run_str_k hSw.2.2.2.2.2.1; have z4 := run_str_k hSw.2.2.2.2.2.2.1; have la := hSw.2.2.2.2.2.2.2.1; have lb := hSw.2.2.2.2.2.2.2.2.1; clear hSw; go_simp)
                    (try (with_reducible rfl))
                  (try simp only [List.getElem_toArray, List.getElem_cons_zero, List.getElem_cons_succ, Act.put, List.setIfInBounds_toArray, List.set_cons_zero, List.set_cons_succ])
                  refine' wpAnyH_take (i := 8) (v := _) rfl (by kernel_rfl) (by kernel_rfl) (by kernel_rfl) (fun _ _ _ h => h) (Or.inl ⟨by rfl, ?taq62⟩) (by assumption) ?tbq62
                  case taq62 =>
                    intro wS hSw
                    (try dsimp only at hSw)
                    (have c16 := hSw.2.1; have d16 := hSw.2.2.1; have z1 := run_str_k hSw.2.2.2.1; have z2 := run_str_k hSw.2.2.2.2.1; have z3 := run_str_k hSw.2.2.2.2.2.1; have z4 := run_str_k hSw.2.2.2.2.2.2.1; have la := hSw.2.2.2.2.2.2.2.1; have lb := hSw.2.2.2.2.2.2.2.2.1; clear hSw; go_simp)
                    (try (with_reducible rfl))
                  (try simp only [List.getElem_toArray, List.getElem_cons_zero, List.getElem_cons_succ, Act.put, List.setIfInBounds_toArray, List.set_cons_zero, List.set_cons_succ])
                  refine' wpAnyH_take (i := 9) (v := _) rfl (by kernel_rfl) (by kernel_rfl) (by kernel_rfl) (fun _ _ _ h => h) (Or.inl ⟨by rfl, ?taq63⟩) (by assumption) ?tbq63
                  case taq63 =>
                    intro wS hSw
                    (try dsimp only at hSw)
                    (have c16 := hSw.2.1; have d16 := hSw.2.2.1; have z1 := run_str_k hSw.2.2.2.1; have z2 := run_str_k hSw.2.2.2.2.1; have z3 := run_str_k hSw.2.2.2.2.2.1; have z4 := run_str_k hSw.2.2.2.2.2.2.1; have la := hSw.2.2.2.2.2.2.2.1; have lb := hSw.2.2.2.2.2.2.2.2.1; clear hSw; go_simp)
                    (try (with_reducible rfl))
                  (try simp only [List.getElem_toArray, List.getElem_cons_zero, List.getElem_cons_succ, Act.put, List.setIfInBounds_toArray, List.set_cons_zero, List.set_cons_succ])
                  refine' wpAnyH_take (i := 10) (v := _) rfl (by kernel_rfl) (by kernel_rfl) (by kernel_rfl) (fun _ _ _ h => h) (Or.inl ⟨by rfl, ?taq64⟩) (by assumption) ?tbq64
                  case taq64 =>
                    intro wS hSw
                    (try dsimp only at hSw)
                    (have c16 := hSw.2.1; have d16 := hSw.2.2.1; have z1 := run_str_k hSw.2.2.2.1; have z2 := run_str_k hSw.2.2.2.2.1; have z3 := run_str_k hSw.2.2.2.2.2.1; have z4 := run_str_k hSw.2.2.2.2.2.2.1; have la := hSw.2.2.2.2.2.2.2.1; have lb := hSw.2.2.2.2.2.2.2.2.1; clear hSw; go_simp)
                    (try (with_reducible rfl))
                  (try simp only [List.getElem_toArray, List.getElem_cons_zero, List.getElem_cons_succ, Act.put, List.setIfInBounds_toArray, List.set_cons_zero, List.set_cons_succ])
                  refine' wpAnyH_take (i := 11) (v := _) rfl (by kernel_rfl) (by kernel_rfl) (by kernel_rfl) (fun _ _ _ h => h) (Or.inl ⟨by rfl, ?taq65⟩) (by assumption) ?tbq65
                  case taq65 =>
                    intro wS hSw
                    (try dsimp only at hSw)
                    (have c16 := hSw.2.1; have d16 := hSw.2.2.1; have z1 := run_str_k hSw.2.2.2.1; have z2 := run_str_k hSw.2.2.2.2.1; have z3 := run_str_k hSw.2.2.2.2.2.1; have z4 := run_str_k hSw.2.2.2.2.2.2.1; have la := hSw.2.2.2.2.2.2.2.1; have lb := hSw.2.2.2.2.2.2.2.2.1; clear hSw; go_simp)
                    (try (with_reducible rfl))
                  (try simp only [List.getElem_toArray, List.getElem_cons_zero, List.getElem_cons_succ, Act.put, List.setIfInBounds_toArray, List.set_cons_zero, List.set_cons_succ])
                  refine' wpAnyH_take (i := 12) (v := _) rfl (by kernel_rfl) (by kernel_rfl) (by kernel_rfl) (fun _ _ _ h => h) (Or.inl ⟨by rfl, ?taq66⟩) (by assumption) ?tbq66
                  case taq66 =>
                    intro wS hSw
                    (try dsimp only at hSw)
                    (have c16 := hSw.2.1; have d16 := hSw.2.2.1; have z1 := run_str_k hSw.2.2.2.1; have z2 := run_str_k hSw.2.2.2.2.1; have z3 := run_str_k hSw.2.2.2.2.2.1; have z4 := run_str_k hSw.2.2.2.2.2.2.1; have la := hSw.2.2.2.2.2.2.2.1; have lb := hSw.2.2.2.2.2.2.2.2.1; clear hSw; go_simp)
                    (try (with_reducible rfl))
                  (try simp only [List.getElem_toArray, List.getElem_cons_zero, List.getElem_cons_succ, Act.put, List.setIfInBounds_toArray, List.set_cons_zero, List.set_cons_succ])
                  refine' wpAnyH_take (i := 13) (v := _) rfl (by kernel_rfl) (by kernel_rfl) (by kernel_rfl) (fun _ _ _ h => h) (Or.inl ⟨by rfl, ?taq67⟩) (by assumption) ?tbq67
                  case taq67 =>
                    intro wS hSw
                    (try dsimp only at hSw)
                    (have c16 := hSw.2.1; have d16 := hSw.2.2.1; have z1 := run_str_k hSw.2.2.2.1; have z2 := run_str_k hSw.2.2.2.2.1; have z3 := run_str_k hSw.2.2.2.2.2.1; have z4 := run_str_k hSw.2.2.2.2.2.2.1; have la := hSw.2.2.2.2.2.2.2.1; have lb := hSw.2.2.2.2.2.2.2.2.1; clear hSw; go_simp)
                    (try (with_reducible rfl))
                  (try simp only [List.getElem_toArray, List.getElem_cons_zero, List.getElem_cons_succ, Act.put, List.setIfInBounds_toArray, List.set_cons_zero, List.set_cons_succ])
                  refine' wpAnyH_take (i := 14) (v := _) rfl (by kernel_rfl) (by kernel_rfl) (by kernel_rfl) (fun _ _ _ h => h) (Or.inl ⟨by rfl, ?taq68⟩) (by assumption) ?tbq68
                  case taq68 =>
                    intro wS hSw
                    (try dsimp only at hSw)
                    (have c16 := hSw.2.1; have d16 := hSw.2.2.1; have z1 := run_str_k hSw.2.2.2.1; have z2 := run_str_k hSw.2.2.2.2.1; have z3 := run_str_k hSw.2.2.2.2.2.1; have z4 := run_str_k hSw.2.2.2.2.2.2.1; have la := hSw.2.2.2.2.2.2.2.1; have lb := hSw.2.2.2.2.2.2.2.2.1; clear hSw; go_simp)
                    (try (with_reducible rfl))
                  (try simp only [List.getElem_toArray, List.getElem_cons_zero, List.getElem_cons_succ, Act.put, List.setIfInBounds_toArray, List.set_cons_zero, List.set_cons_succ])
                  refine' wpAnyH_take (i := 15) (v := _) rfl (by kernel_rfl) (by kernel_rfl) (by kernel_rfl) (fun _ _ _ h => h) (Or.inl ⟨by rfl, ?taq69⟩) (by assumption) ?tbq69
                  case taq69 =>
                    intro wS hSw
                    (try dsimp only at hSw)
                    (have c16 := hSw.2.1; have d16 := hSw.2.2.1; have z1 := run_str_k hSw.2.2.2.1; have z2 := run_str_k hSw.2.2.2.2.1; have z3 := run_str_k hSw.2.2.2.2.2.1; have z4 := run_str_k hSw.2.2.2.2.2.2.1; have la := hSw.2.2.2.2.2.2.2.1; have lb := hSw.2.2.2.2.2.2.2.2.1; clear hSw; go_simp)
                    (try (with_reducible rfl))
                  (try simp only [List.getElem_toArray, List.getElem_cons_zero, List.getElem_cons_succ, Act.put, List.setIfInBounds_toArray, List.set_cons_zero, List.set_cons_succ])
                  refine' wpAnyH_take (i := 16) (v := _) rfl (by kernel_rfl) (by kernel_rfl) (by kernel_rfl) (fun _ _ _ h => h) (Or.inl ⟨by rfl, ?taq70⟩) (by assumption) ?tbq70
                  case taq70 =>
                    intro wS hSw
                    (try dsimp only at hSw)
                    (have c16 := hSw.2.1; have d16 := hSw.2.2.1; have z1 := run_str_k hSw.2.2.2.1; have z2 := run_str_k hSw.2.2.2.2.1; have z3 := run_str_k hSw.2.2.2.2.2.1; have z4 := run_str_k hSw.2.2.2.2.2.2.1; have la := hSw.2.2.2.2.2.2.2.1; have lb := hSw.2.2.2.2.2.2.2.2.1; clear hSw; go_simp)
                    (try (with_reducible rfl))
                  (try simp only [List.getElem_toArray, List.getElem_cons_zero, List.getElem_cons_succ, Act.put, List.setIfInBounds_toArray, List.set_cons_zero, List.set_cons_succ])
                  refine' wpAnyH_take (i := 17) (v := _) rfl (by kernel_rfl) (by kernel_rfl) (by kernel_rfl) (fun _ _ _ h => h) (Or.inl ⟨by rfl, ?taq71⟩) (by assumption) ?tbq71
                  case taq71 =>
                    intro wS hSw
                    (try dsimp only at hSw)
                    (have c16 := hSw.2.1; have d16 := hSw.2.2.1; have z1 := run_str_k hSw.2.2.2.1; have z2 := run_str_k hSw.2.2.2.2.1; have z3 := run_str_k hSw.2.2.2.2.2.1; have z4 := run_str_k hSw.2.2.2.2.2.2.1; have la := hSw.2.2.2.2.2.2.2.1; have lb := hSw.2.2.2.2.2.2.2.2.1; clear hSw; go_simp)
                    (try (with_reducible rfl))
                  (try simp only [List.getElem_toArray, List.getElem_cons_zero, List.getElem_cons_succ, Act.put, List.setIfInBounds_toArray, List.set_cons_zero, List.set_cons_succ])
                  refine' wpAnyH_take (i := 18) (v := _) rfl (by kernel_rfl) (by kernel_rfl) (by kernel_rfl) (fun _ _ _ h => h) (Or.inl ⟨by rfl, ?taq72⟩) (by assumption) ?tbq72
                  case taq72 =>
                    intro wS hSw
                    (try dsimp only at hSw)
                    (have c16 := hSw.2.1; have d16 := hSw.2.2.1; have z1 := run_str_k hSw.2.2.2.1; have z2 := run_str_k hSw.2.2.2.2.1; have z3 := run_str_k hSw.2.2.2.2.2.1; have z4 := run_str_k hSw.2.2.2.2.2.2.1; have la := hSw.2.2.2.2.2.2.2.1; have lb := hSw.2.2.2.2.2.2.2.2.1; clear hSw; go_simp)
                    (try (with_reducible rfl))
                  (try simp only [List.getElem_toArray, List.getElem_cons_zero, List.getElem_cons_succ, Act.put, List.setIfInBounds_toArray, List.set_cons_zero, List.set_cons_succ])
                  refine' wpAnyH_take (i := 19) (v := _) rfl (by kernel_rfl) (by kernel_rfl) (by kernel_rfl) (fun _ _ _ h => h) (Or.inl ⟨by rfl, ?taq73⟩) (by assumption) ?tbq73
                  case taq73 =>
                    intro wS hSw
                    (try dsimp only at hSw)
                    (have c16 := hSw.2.1; have d16 := hSw.2.2.1; have z1 := run_str_k hSw.2.2.2.1; have z2 := run_str_k hSw.2.2.2.2.1; have z3 := run_str_k hSw.2.2.2.2.2.1; have z4 := run_str_k hSw.2.2.2.2.2.2.1; have la := hSw.2.2.2.2.2.2.2.1; have lb := hSw.2.2.2.2.2.2.2.2.1; clear hSw; go_simp)
                    (try (with_reducible rfl))
                  (try simp only [List.getElem_toArray, List.getElem_cons_zero, List.getElem_cons_succ, Act.put, List.setIfInBounds_toArray, List.set_cons_zero, List.set_cons_succ])
                  refine' wpAnyH_take (i := 20) (v := _) rfl (by kernel_rfl) (by kernel_rfl) (by kernel_rfl) (fun _ _ _ h => h) (Or.inl ⟨by rfl, ?taq74⟩) (by assumption) ?tbq74
                  case taq74 =>
                    intro wS hSw
                    (try dsimp only at hSw)
                    (have c16 := hSw.2.1; have d16 := hSw.2.2.1; have z1 := run_str_k hSw.2.2.2.1; have z2 := run_str_k hSw.2.2.2.2.1; have z3 := run_str_k hSw.2.2.2.2.2.1; have z4 := run_str_k hSw.2.2.2.2.2.2.1; have la := hSw.2.2.2.2.2.2.2.1; have lb := hSw.2.2.2.2.2.2.2.2.1; clear hSw; go_simp)
                    (try (with_reducible rfl))
                  (try simp only [List.getElem_toArray, List.getElem_cons_zero, List.getElem_cons_succ, Act.put, List.setIfInBounds_toArray, List.set_cons_zero, List.set_cons_succ])
                  refine' wpAnyH_take (i := 21) (v := _) rfl (by kernel_rfl) (by kernel_rfl) (by kernel_rfl) (fun _ _ _ h => h) (Or.inl ⟨by rfl, ?taq75⟩) (by assumption) ?tbq75
                  case taq75 =>
                    intro wS hSw
                    (try dsimp only at hSw)
                    (have c16 := hSw.2.1; have d16 := hSw.2.2.1; have z1 := run_str_k hSw.2.2.2.1; have z2 := run_str_k hSw.2.2.2.2.1; have z3 := run_str_k hSw.2.2.2.2.2.1; have z4 := run_str_k hSw.2.2.2.2.2.2.1; have la := hSw.2.2.2.2.2.2.2.1; have lb := hSw.2.2.2.2.2.2.2.2.1; clear hSw; go_simp)
                    (try (with_reducible rfl))
                  (try simp only [List.getElem_toArray, List.getElem_cons_zero, List.getElem_cons_succ, Act.put, List.setIfInBounds_toArray, List.set_cons_zero, List.set_cons_succ])
                  refine' wpAnyH_take (i := 22) (v := _) rfl (by kernel_rfl) (by kernel_rfl) (by kernel_rfl) (fun _ _ _ h => h) (Or.inl ⟨by rfl, ?taq76⟩) (by assumption) ?tbq76
                  case taq76 =>
                    intro wS hSw
                    (try dsimp only at hSw)
                    (have c16 := hSw.2.1; have d16 := hSw.2.2.1; have z1 := run_str_k hSw.2.2.2.1; have z2 := run_str_k hSw.2.2.2.2.1; have z3 := run_str_k hSw.2.2.2.2.2.1; have z4 := run_str_k hSw.2.2.2.2.2.2.1; have la := hSw.2.2.2.2.2.2.2.1; have lb := hSw.2.2.2.2.2.2.2.2.1; clear hSw; go_simp)
                    (try (with_reducible rfl))
                  (try simp only [List.getElem_toArray, List.getElem_cons_zero, List.getElem_cons_succ, Act.put, List.setIfInBounds_toArray, List.set_cons_zero, List.set_cons_succ])
                  refine' wpAnyH_take (i := 23) (v := _) rfl (by kernel_rfl) (by kernel_rfl) (by kernel_rfl) (fun _ _ _ h => h) (Or.inl ⟨by rfl, ?taq77⟩) (by assumption) ?tbq77
                  case taq77 =>
                    intro wS hSw
                    (try dsimp only at hSw)
                    (have c16 := hSw.2.1; have d16 := hSw.2.2.1; have z1 := run_str_k hSw.2.2.2.1; have z2 := run_str_k hSw.2.2.2.2.1; have z3 := run_str_k hSw.2.2.2.2.2.1; have z4 := run_str_k hSw.2.2.2.2.2.2.1; have la := hSw.2.2.2.2.2.2.2.1; have lb := hSw.2.2.2.2.2.2.2.2.1; clear hSw; go_simp)
                    (try (with_reducible rfl))
                  (try simp only [List.getElem_toArray, List.getElem_cons_zero, List.getElem_cons_succ, Act.put, List.setIfInBounds_toArray, List.set_cons_zero, List.set_cons_succ])
                  refine' wpAnyH_take (i := 24) (v := _) rfl (by kernel_rfl) (by kernel_rfl) (by kernel_rfl) (fun _ _ _ h => h) (Or.inl ⟨by rfl, ?taq78⟩) (by assumption) ?tbq78
                  case taq78 =>
                    intro wS hSw
                    (try dsimp only at hSw)
                    (have c16 := hSw.2.1; have d16 := hSw.2.2.1; have z1 := run_str_k hSw.2.2.2.1; have z2 := run_str_k hSw.2.2.2.2.1; have z3 := run_str_k hSw.2.2.2.2.2.1; have z4 := run_str_k hSw.2.2.2.2.2.2.1; have la := hSw.2.2.2.2.2.2.2.1; have lb := hSw.2.2.2.2.2.2.2.2.1; clear hSw; go_simp)
                    (try (with_reducible rfl))
                  (try simp only [List.getElem_toArray, List.getElem_cons_zero, List.getElem_cons_succ, Act.put, List.setIfInBounds_toArray, List.set_cons_zero, List.set_cons_succ])
                  refine' wpAnyH_take (i := 25) (v := _) rfl (by kernel_rfl) (by kernel_rfl) (by kernel_rfl) (fun _ _ _ h => h) (Or.inl ⟨by rfl, ?taq79⟩) (by assumption) ?tbq79
                  case taq79 =>
                    intro wS hSw
                    (try dsimp only at hSw)
                    (have c16 := hSw.2.1; have d16 := hSw.2.2.1; have z1 := run_str_k hSw.2.2.2.1; have z2 := run_str_k hSw.2.2.2.2.1; have z3 := run_str_k hSw.2.2.2.2.2.1; have z4 := run_str_k hSw.2.2.2.2.2.2.1; have la := hSw.2.2.2.2.2.2.2.1; have lb := hSw.2.2.2.2.2.2.2.2.1; clear hSw; go_simp)
                    (try (with_reducible rfl))
                  (try simp only [List.getElem_toArray, List.getElem_cons_zero, List.getElem_cons_succ, Act.put, List.setIfInBounds_toArray, List.set_cons_zero, List.set_cons_succ])
                  refine' wpAnyH_take (i := 26) (v := _) rfl (by kernel_rfl) (by kernel_rfl) (by kernel_rfl) (fun _ _ _ h => h) (Or.inl ⟨by rfl, ?taq80⟩) (by assumption) ?tbq80
                  case taq80 =>
                    intro wS hSw
                    (try dsimp only at hSw)
                    (have c16 := hSw.2.1; have d16 := hSw.2.2.1; have z1 := run_str_k hSw.2.2.2.1; have z2 := run_str_k hSw.2.2.2.2.1; have z3 := run_str_k hSw.2.2.2.2.2.1; have z4 := run_str_k hSw.2.2.2.2.2.2.1; have la := hSw.2.2.2.2.2.2.2.1; have lb := hSw.2.2.2.2.2.2.2.2.1; clear hSw; go_simp)
                    (try (with_reducible rfl))
                  (try simp only [List.getElem_toArray, List.getElem_cons_zero, List.getElem_cons_succ, Act.put, List.setIfInBounds_toArray, List.set_cons_zero, List.set_cons_succ])
                  refine' wpAnyH_take (i := 27) (v := _) rfl (by kernel_rfl) (by kernel_rfl) (by kernel_rfl) (fun _ _ _ h => h) (Or.inl ⟨by rfl, ?taq81⟩) (by assumption) ?tbq81
                  case taq81 =>
                    intro wS hSw
                    (try dsimp only at hSw)
                    (have c16 := hSw.2.1; have d16 := hSw.2.2.1; have z1 := run_str_k hSw.2.2.2.1; have z2 := run_str_k hSw.2.2.2.2.1; have z3 := run_str_k hSw.2.2.2.2.2.1; have z4 := run_str_k hSw.2.2.2.2.2.2.1; have la := hSw.2.2.2.2.2.2.2.1; have lb := hSw.2.2.2.2.2.2.2.2.1; clear hSw; go_simp)
                    (try (with_reducible rfl))
                  (try simp only [List.getElem_toArray, List.getElem_cons_zero, List.getElem_cons_succ, Act.put, List.setIfInBounds_toArray, List.set_cons_zero, List.set_cons_succ])
                  refine' wpAnyH_take (i := 28) (v := _) rfl (by kernel_rfl) (by kernel_rfl) (by kernel_rfl) (fun _ _ _ h => h) (Or.inl ⟨by rfl, ?taq82⟩) (by assumption) ?tbq82
                  case taq82 =>
                    intro wS hSw
                    (try dsimp only at hSw)
                    (have c16 := hSw.2.1; have d16 := hSw.2.2.1; have z1 := run_str_k hSw.2.2.2.1; have z2 := run_str_k hSw.2.2.2.2.1; have z3 := run_str_k hSw.2.2.2.2.2.1; have z4 := run_str_k hSw.2.2.2.2.2.2.1; have la := hSw.2.2.2.2.2.2.2.1; have lb := hSw.2.2.2.2.2.2.2.2.1; clear hSw; go_simp)
                    (try (with_reducible rfl))
                  (try simp only [List.getElem_toArray, List.getElem_cons_zero, List.getElem_cons_succ, Act.put, List.setIfInBounds_toArray, List.set_cons_zero, List.set_cons_succ])
                  refine' wpAnyH_take (i := 29) (v := _) rfl (by kernel_rfl) (by kernel_rfl) (by kernel_rfl) (fun _ _ _ h => h) (Or.inl ⟨by rfl, ?taq83⟩) (by assumption) ?tbq83
                  case taq83 =>
                    intro wS hSw
                    (try dsimp only at hSw)
                    (have c16 := hSw.2.1; have d16 := hSw.2.2.1; have z1 := run_str_k hSw.2.2.2.1; have z2 := run_str_k hSw.2.2.2.2.1; have z3 := run_str_k hSw.2.2.2.2.2.1; have z4 := run_str_k hSw.2.2.2.2.2.2.1; have la := hSw.2.2.2.2.2.2.2.1; have lb := hSw.2.2.2.2.2.2.2.2.1; clear hSw; go_simp)
                    (try (with_reducible rfl))
                  (try simp only [List.getElem_toArray, List.getElem_cons_zero, List.getElem_cons_succ, Act.put, List.setIfInBounds_toArray, List.set_cons_zero, List.set_cons_succ])
                  refine' wpAnyH_take (i := 30) (v := _) rfl (by kernel_rfl) (by kernel_rfl) (by kernel_rfl) (fun _ _ _ h => h) (Or.inl ⟨by rfl, ?taq84⟩) (by assumption) ?tbq84
                  case taq84 =>
                    intro wS hSw
                    (try dsimp only at hSw)
                    (have c16 := hSw.2.1; have d16 := hSw.2.2.1; have z1 := run_str_k hSw.2.2.2.1; have z2 := run_str_k hSw.2.2.2.2.1; have z3 := run_str_k hSw.2.2.2.2.2.1; have z4 := run_str_k hSw.2.2.2.2.2.2.1; have la := hSw.2.2.2.2.2.2.2.1; have lb := hSw.2.2.2.2.2.2.2.2.1; clear hSw; go_simp)
                    (try (with_reducible rfl))
                  (try simp only [List.getElem_toArray, List.getElem_cons_zero, List.getElem_cons_succ, Act.put, List.setIfInBounds_toArray, List.set_cons_zero, List.set_cons_succ])
                  refine' wpAnyH_take (i := 31) (v := _) rfl (by kernel_rfl) (by kernel_rfl) (by kernel_rfl) (fun _ _ _ h => h) (Or.inl ⟨by rfl, ?taq85⟩) (by assumption) ?tbq85
                  case taq85 =>
                    intro wS hSw
                    (try dsimp only at hSw)
                    (have c16 := hSw.2.1; have d16 := hSw.2.2.1; have z1 := run_str_k hSw.2.2.2.1; have z2 := run_str_k hSw.2.2.2.2.1; have z3 := run_str_k hSw.2.2.2.2.2.1; have z4 := run_str_k hSw.2.2.2.2.2.2.1; have la := hSw.2.2.2.2.2.2.2.1; have lb := hSw.2.2.2.2.2.2.2.2.1; clear hSw; go_simp)
                    (try (with_reducible rfl))
                  (try simp only [List.getElem_toArray, List.getElem_cons_zero, List.getElem_cons_succ, Act.put, List.setIfInBounds_toArray, List.set_cons_zero, List.set_cons_succ])
                  refine' wpAnyH_take (i := 32) (v := _) rfl (by kernel_rfl) (by kernel_rfl) (by kernel_rfl) (fun _ _ _ h => h) (Or.inl ⟨by rfl, ?taq86⟩) (by assumption) ?tbq86
                  case taq86 =>
                    intro wS hSw
                    (try dsimp only at hSw)
                    (have c16 := hSw.2.1; have d16 := hSw.2.2.1; have z1 := run_str_k hSw.2.2.2.1; have z2 := run_str_k hSw.2.2.2.2.1; have z3 := run_str_k hSw.2.2.2.2.2.1; have z4 := run_str_k hSw.2.2.2.2.2.2.1; have la := hSw.2.2.2.2.2.2.2.1; have lb := hSw.2.2.2.2.2.2.2.2.1; clear hSw; go_simp)
                    (try (with_reducible rfl))
                  (try simp only [List.getElem_toArray, List.getElem_cons_zero, List.getElem_cons_succ, Act.put, List.setIfInBounds_toArray, List.set_cons_zero, List.set_cons_succ])
                  refine' wpAnyH_take (i := 33) (v := _) rfl (by kernel_rfl) (by kernel_rfl) (by kernel_rfl) (fun _ _ _ h => h) (Or.inl ⟨by rfl, ?taq87⟩) (by assumption) ?tbq87
                  case taq87 =>
                    intro wS hSw
                    (try dsimp only at hSw)
                    (have c16 := hSw.2.1; have d16 := hSw.2.2.1; have z1 := run_str_k hSw.2.2.2.1; have z2 := run_str_k hSw.2.2.2.2.1; have z3 := run_str_k hSw.2.2.2.2.2.1; have z4 := run_str_k hSw.2.2.2.2.2.2.1; have la := hSw.2.2.2.2.2.2.2.1; have lb := hSw.2.2.2.2.2.2.2.2.1; clear hSw; go_simp)
                    (try (with_reducible rfl))
                  (try simp only [List.getElem_toArray, List.getElem_cons_zero, List.getElem_cons_succ, Act.put, List.setIfInBounds_toArray, List.set_cons_zero, List.set_cons_succ])
                  refine' wpAnyH_take (i := 34) (v := _) rfl (by kernel_rfl) (by kernel_rfl) (by kernel_rfl) (fun _ _ _ h => h) (Or.inl ⟨by rfl, ?taq88⟩) (by assumption) ?tbq88
                  case taq88 =>
                    intro wS hSw
                    (try dsimp only at hSw)
                    (have c16 := hSw.2.1; have d16 := hSw.2.2.1; have z1 := run_str_k hSw.2.2.2.1; have z2 := run_str_k hSw.2.2.2.2.1; have z3 := run_str_k hSw.2.2.2.2.2.1; have z4 := run_str_k hSw.2.2.2.2.2.2.1; have la := hSw.2.2.2.2.2.2.2.1; have lb := hSw.2.2.2.2.2.2.2.2.1; clear hSw; go_simp)
                    (try (with_reducible rfl))
                  (try simp only [List.getElem_toArray, List.getElem_cons_zero, List.getElem_cons_succ, Act.put, List.setIfInBounds_toArray, List.set_cons_zero, List.set_cons_succ])
                  refine' wpAnyH_take (i := 35) (v := _) rfl (by kernel_rfl) (by kernel_rfl) (by kernel_rfl) (fun _ _ _ h => h) (Or.inl ⟨by rfl, ?taq89⟩) (by assumption) ?tbq89
                  case taq89 =>
                    intro wS hSw
                    (try dsimp only at hSw)
                    (have c16 := hSw.2.1; have d16 := hSw.2.2.1; have z1 := run_str_k hSw.2.2.2.1; have z2 := run_str_k hSw.2.2.2.2.1; have z3 := run_str_k hSw.2.2.2.2.2.1; have z4 := run_str_k hSw.2.2.2.2.2.2.1; have la := hSw.2.2.2.2.2.2.2.1; have lb := hSw.2.2.2.2.2.2.2.2.1; clear hSw; go_simp)
                    (try (with_reducible rfl))
                  (try simp only [List.getElem_toArray, List.getElem_cons_zero, List.getElem_cons_succ, Act.put, List.setIfInBounds_toArray, List.set_cons_zero, List.set_cons_succ])
                  refine' wpAnyH_take (i := 36) (v := _) rfl (by kernel_rfl) (by kernel_rfl) (by kernel_rfl) (fun _ _ _ h => h) (Or.inl ⟨by rfl, ?taq90⟩) (by assumption) ?tbq90
                  case taq90 =>
                    intro wS hSw
                    (try dsimp only at hSw)
                    (have c16 := hSw.2.1; have d16 := hSw.2.2.1; have z1 := run_str_k hSw.2.2.2.1; have z2 := run_str_k hSw.2.2.2.2.1; have z3 := run_str_k hSw.2.2.2.2.2.1; have z4 := run_str_k hSw.2.2.2.2.2.2.1; have la := hSw.2.2.2.2.2.2.2.1; have lb := hSw.2.2.2.2.2.2.2.2.1; clear hSw; go_simp)
                    (try (with_reducible rfl))
                  (try simp only [List.getElem_toArray, List.getElem_cons_zero, List.getElem_cons_succ, Act.put, List.setIfInBounds_toArray, List.set_cons_zero, List.set_cons_succ])
                  refine' wpAnyH_take (i := 37) (v := _) rfl (by kernel_rfl) (by kernel_rfl) (by kernel_rfl) (fun _ _ _ h => h) (Or.inl ⟨by rfl, ?taq91⟩) (by assumption) ?tbq91
                  case taq91 =>
                    intro wS hSw
                    (try dsimp only at hSw)
                    (have c16 := hSw.2.1; have d16 := hSw.2.2.1; have z1 := run_str_k hSw.2.2.2.1; have z2 := run_str_k hSw.2.2.2.2.1; have z3 := run_str_k hSw.2.2.2.2.2.1; have z4 := run_str_k hSw.2.2.2.2.2.2.1; have la := hSw.2.2.2.2.2.2.2.1; have lb := hSw.2.2.2.2.2.2.2.2.1; clear hSw; go_simp)
                    (try (with_reducible rfl))
                  (try simp only [List.getElem_toArray, List.getElem_cons_zero, List.getElem_cons_succ, Act.put, List.setIfInBounds_toArray, List.set_cons_zero, List.set_cons_succ])
                  refine' wpAnyH_take (i := 38) (v := _) rfl (by kernel_rfl) (by kernel_rfl) (by kernel_rfl) (fun _ _ _ h => h) (Or.inl ⟨by rfl, ?taq92⟩) (by assumption) ?tbq92
                  case taq92 =>
                    intro wS hSw
                    (try dsimp only at hSw)
                    (have c16 := hSw.2.1; have d16 := hSw.2.2.1; have z1 := run_str_k hSw.2.2.2.1; have z2 := run_str_k hSw.2.2.2.2.1; have z3 := run_str_k hSw.2.2.2.2.2.1; have z4 := run_str_k hSw.2.2.2.2.2.2.1; have la := hSw.2.2.2.2.2.2.2.1; have lb := hSw.2.2.2.2.2.2.2.2.1; clear hSw; go_simp)
                    (try (with_reducible rfl))
                  (try simp only [List.getElem_toArray, List.getElem_cons_zero, List.getElem_cons_succ, Act.put, List.setIfInBounds_toArray, List.set_cons_zero, List.set_cons_succ])
                  refine' wpAnyH_take (i := 39) (v := _) rfl (by kernel_rfl) (by kernel_rfl) (by kernel_rfl) (fun _ _ _ h => h) (Or.inl ⟨by rfl, ?taq93⟩) (by assumption) ?tbq93
                  case taq93 =>
                    intro wS hSw
                    (try dsimp only at hSw)
                    (have c16 := hSw.2.1; have d16 := hSw.2.2.1; have z1 := run_str_k hSw.2.2.2.1; have z2 := run_str_k hSw.2.2.2.2.1; have z3 := run_str_k hSw.2.2.2.2.2.1; have z4 := run_str_k hSw.2.2.2.2.2.2.1; have la := hSw.2.2.2.2.2.2.2.1; have lb := hSw.2.2.2.2.2.2.2.2.1; clear hSw; go_simp)
                    (try (with_reducible rfl))
                  (try simp only [List.getElem_toArray, List.getElem_cons_zero, List.getElem_cons_succ, Act.put, List.setIfInBounds_toArray, List.set_cons_zero, List.set_cons_succ])
                  refine' wpAnyH_take (i := 40) (v := _) rfl (by kernel_rfl) (by kernel_rfl) (by kernel_rfl) (fun _ _ _ h => h) (Or.inl ⟨by rfl, ?taq94⟩) (by assumption) ?tbq94
                  case taq94 =>
                    intro wS hSw
                    (try dsimp only at hSw)
                    (have c16 := hSw.2.1; have d16 := hSw.2.2.1; have z1 := run_str_k hSw.2.2.2.1; have z2 := run_str_k hSw.2.2.2.2.1; have z3 := run_str_k hSw.2.2.2.2.2.1; have z4 := run_str_k hSw.2.2.2.2.2.2.1; have la := hSw.2.2.2.2.2.2.2.1; have lb := hSw.2.2.2.2.2.2.2.2.1; clear hSw; go_simp)
                    (try (with_reducible rfl))
                  (try simp only [List.getElem_toArray, List.getElem_cons_zero, List.getElem_cons_succ, Act.put, List.setIfInBounds_toArray, List.set_cons_zero, List.set_cons_succ])
                  refine' wpAnyH_take (i := 41) (v := _) rfl (by kernel_rfl) (by kernel_rfl) (by kernel_rfl) (fun _ _ _ h => h) (Or.inl ⟨by rfl, ?taq95⟩) (by assumption) ?tbq95
                  case taq95 =>
                    intro wS hSw
                    (try dsimp only at hSw)
                    (have c16 := hSw.2.1; have d16 := hSw.2.2.1; have z1 := run_str_k hSw.2.2.2.1; have z2 := run_str_k hSw.2.2.2.2.1; have z3 := run_str_k hSw.2.2.2.2.2.1; have z4 := run_str_k hSw.2.2.2.2.2.2.1; have la := hSw.2.2.2.2.2.2.2.1; have lb := hSw.2.2.2.2.2.2.2.2.1; clear hSw; go_simp)
                    (try (with_reducible rfl))
                  (try simp only [List.getElem_toArray, List.getElem_cons_zero, List.getElem_cons_succ, Act.put, List.setIfInBounds_toArray, List.set_cons_zero, List.set_cons_succ])
                  refine' wpAnyH_take (i := 42) (v := _) rfl (by kernel_rfl) (by kernel_rfl) (by kernel_rfl) (fun _ _ _ h => h) (Or.inl ⟨by rfl, ?taq96⟩) (by assumption) ?tbq96
                  case taq96 =>
                    intro wS hSw
                    (try dsimp only at hSw)
                    (have c16 := hSw.2.1; have d16 := hSw.2.2.1; have z1 := run_str_k hSw.2.2.2.1; have z2 := run_str_k hSw.2.2.2.2.1; have z3 := run_str_k hSw.2.2.2.2.2.1; have z4 := run_str_k hSw.2.2.2.2.2.2.1; have la := hSw.2.2.2.2.2.2.2.1; have lb := hSw.2.2.2.2.2.2.2.2.1; clear hSw; go_simp)
                    (try (with_reducible rfl))
                  (try simp only [List.getElem_toArray, List.getElem_cons_zero, List.getElem_cons_succ, Act.put, List.setIfInBounds_toArray, List.set_cons_zero, List.set_cons_succ])
                  refine' wpAnyH_take (i := 43) (v := _) rfl (by kernel_rfl) (by kernel_rfl) (by kernel_rfl) (fun _ _ _ h => h) (Or.inl ⟨by rfl, ?taq97⟩) (by assumption) ?tbq97
                  case taq97 =>
                    intro wS hSw
                    (try dsimp only at hSw)
                    (have c16 := hSw.2.1; have d16 := hSw.2.2.1; have z1 := run_str_k hSw.2.2.2.1; have z2 := run_str_k hSw.2.2.2.2.1; have z3 := run_str_k hSw.2.2.2.2.2.1; have z4 := run_str_k hSw.2.2.2.2.2.2.1; have la := hSw.2.2.2.2.2.2.2.1; have lb := hSw.2.2.2.2.2.2.2.2.1; clear hSw; go_simp)
                    (try (with_reducible rfl))
                  (try simp only [List.getElem_toArray, List.getElem_cons_zero, List.getElem_cons_succ, Act.put, List.setIfInBounds_toArray, List.set_cons_zero, List.set_cons_succ])
                  refine' wpAnyH_take (i := 44) (v := _) rfl (by kernel_rfl) (by kernel_rfl) (by kernel_rfl) (fun _ _ _ h => h) (Or.inl ⟨by rfl, ?taq98⟩) (by assumption) ?tbq98
                  case taq98 =>
                    intro wS hSw
                    (try dsimp only at hSw)
                    (have c16 := hSw.2.1; have d16 := hSw.2.2.1; have z1 := run_str_k hSw.2.2.2.1; have z2 := run_str_k hSw.2.2.2.2.1; have z3 := run_str_k hSw.2.2.2.2.2.1; have z4 := run_str_k hSw.2.2.2.2.2.2.1; have la := hSw.2.2.2.2.2.2.2.1; have lb := hSw.2.2.2.2.2.2.2.2.1; clear hSw; go_simp)
                    (try (with_reducible rfl))
                  (try simp only [List.getElem_toArray, List.getElem_cons_zero, List.getElem_cons_succ, Act.put, List.setIfInBounds_toArray, List.set_cons_zero, List.set_cons_succ])
                  refine wpAnyH_ready (rs := [45]) (by kernel_rfl) (by simp) ?_
                  refine AllReadyH.cons rfl (fun K9 hK9 => ?_) AllReadyH.nil
                  (try simp only [List.getElem_toArray, List.getElem_cons_zero, List.getElem_cons_succ])
                  go_simp
                  refine (awake24_any _).mono ?_
                  rintro en wz ⟨rfl, hbz⟩
                  have hBz := hHeld.1.trans (hbz.mono hHeld.1.size)
                  refine hK9.out _ _ (⟨hBz, (hbz.cell (p := ⟨ga, 16, none⟩) hHeld.2.2.2.2.2.2.2.1).trans hHeld.2.1, (hbz.cell (p := ⟨gb, 16, none⟩) hHeld.2.2.2.2.2.2.2.2.1).trans hHeld.2.2.1, hHeld.2.2.2.1.below (hbz.mono hHeld.2.2.2.2.2.2.2.2.2), hHeld.2.2.2.2.1.below (hbz.mono hHeld.2.2.2.2.2.2.2.2.2), hHeld.2.2.2.2.2.1.below (hbz.mono hHeld.2.2.2.2.2.2.2.2.2), hHeld.2.2.2.2.2.2.1.below (hbz.mono hHeld.2.2.2.2.2.2.2.2.2), Nat.lt_of_lt_of_le hHeld.2.2.2.2.2.2.2.1 hbz.size, Nat.lt_of_lt_of_le hHeld.2.2.2.2.2.2.2.2.1 hbz.size, Nat.le_trans hHeld.2.2.2.2.2.2.2.2.2 hbz.size⟩) (fun hHeld9 => ?_)
                  clear hK9 K9
                  (try simp only [List.getElem_toArray, List.getElem_cons_zero, List.getElem_cons_succ, Act.put, List.setIfInBounds_toArray, List.set_cons_zero, List.set_cons_succ])
                  clear hbz
                  refine' wpAnyH_take (i := 46) (v := _) rfl (by kernel_rfl) (by kernel_rfl) (by kernel_rfl) (fun _ _ _ h => h) (Or.inl ⟨by rfl, ?taq99⟩) (by assumption) ?tbq99
                  case taq99 =>
                    intro wS hSw
                    (try dsimp only at hSw)
                    go_simp
                    (try (with_reducible rfl))
                  (try simp only [List.getElem_toArray, List.getElem_cons_zero, List.getElem_cons_succ, Act.put, List.setIfInBounds_toArray, List.set_cons_zero, List.set_cons_succ])
                  refine' wpAnyH_take (i := 47) (v := _) rfl (by kernel_rfl) (by kernel_rfl) (by kernel_rfl) (fun _ _ _ h => h) (Or.inl ⟨by rfl, ?taq100⟩) (by assumption) ?tbq100
                  case taq100 =>
                    intro wS hSw
                    (try dsimp only at hSw)
                    go_simp
                    (try (with_reducible rfl))
                  (try simp only [List.getElem_toArray, List.getElem_cons_zero, List.getElem_cons_succ, Act.put, List.setIfInBounds_toArray, List.set_cons_zero, List.set_cons_succ])
                  refine wpAnyH_done (by kernel_rfl) ?_ _
                  clear hHeld9 hHeld
                  go_wp2_with fail
                  go_ret
                  exact ⟨rfl, hBz⟩
end Go.Proofs.Ytcjpibdgnjncmaa
