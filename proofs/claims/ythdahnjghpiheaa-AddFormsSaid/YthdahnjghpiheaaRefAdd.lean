/- Contract of the reference's Add. -/
import Derived.Test.YthdahnjghpiheaaRefAcc0
import Derived.Test.YthdahnjghpiheaaRefShape2
import Derived.Test.YthdahnjghpiheaaAdd
import Derived.Test.YthdahnjghpiheaaFill
import Derived.Deep.RegionHeld3
import Derived.Deep.DrawnRows
namespace Go.Proofs.Ythdahnjghpiheaa
open Go.RowKit
set_option linter.unusedVariables false
attribute [local go_sem high] run_max_keep run_min_keep

theorem ints_replicateZ (k : IntKind) (n : Nat) : List.replicate n (Value.int k 0) = ints k (List.replicate n 0) := by simp [ints]
structure RAddI (w : World) (b q g0 : Nat) (G X : List Value) (exp : Int) (d7 : Value) (dims : List Int) (zs : List Int) (m : Nat) (wr : World) : Prop where
  box : Blk wr b 25 G
  box2 : Blk wr (b + 1) 25 X
  res : Blk wr (b + 2) 39 [.slice none 0 0, .int .i64 0, .slice none 0 0]
  out : Blk wr q 39 [d7, .int .i64 exp, .slice (some ⟨g0, 0, none⟩) m m]
  dat : Blk wr g0 21 (ints .i32 zs)
  dim : wr.ownsRow (b + 3) 3 1 d7 dims.length (ints .i64 dims)
  dlt : ∀ k, d7.ownBlock = some k → k < g0
  g1 : b + 2 < g0
  q1 : g0 < q
  wb : w.heap.size = b
  bel : Below b w wr
theorem RAddI.drewN {w wr : World} {b q g0 : Nat} {G X : List Value} {exp : Int} {d7 : Value} {dims zs : List Int} {m : Nat} (h : RAddI w b q g0 G X exp d7 dims zs m wr) (n : Nat) : RAddI w b q g0 G X exp d7 dims zs m (wr.drewN n) :=
  ⟨h.box, h.box2, h.res, h.out, h.dat, h.dim, h.dlt, h.g1, h.q1, h.wb, below_drewN h.bel n⟩
theorem RAddI.drew {w wr : World} {b q g0 : Nat} {G X : List Value} {exp : Int} {d7 : Value} {dims zs : List Int} {m : Nat} (h : RAddI w b q g0 G X exp d7 dims zs m wr) : RAddI w b q g0 G X exp d7 dims zs m wr.drew :=
  ⟨h.box, h.box2, h.res, h.out, h.dat, h.dim, h.dlt, h.g1, h.q1, h.wb, h.bel.drew⟩
theorem RAddI.fin {w wr : World} {b q g0 : Nat} {G X : List Value} {exp : Int} {dims zs : List Int} {m : Nat} {A : Option Addr} {c : Nat} (h : RAddI w b q g0 G X exp (.slice A dims.length c) dims zs m wr) (hm : zs.length = m) (h8 : m ≤ 8192) (u0 u1 u2 : Value)
    (db : Hid (∀ x ∈ dims, -9223372036854775808 ≤ x ∧ x ≤ 9223372036854775807)) (xb : Hid (∀ x ∈ zs, -1048576 ≤ x ∧ x ≤ 1048576)) (e0 : -9223372036854775808 ≤ exp) (e1 : exp ≤ 9223372036854775807) :
    FormA w dims exp zs 0 (.returned (.tuple #[.agg #[.slice A dims.length c, .int .i64 exp, .slice (some ⟨g0, 0, none⟩) m m], .int .i64 0])) (((wr.setCell ⟨b + 2, 0, none⟩ u0).setCell ⟨b + 2, 1, none⟩ u1).setCell ⟨b + 2, 2, none⟩ u2) := by
  subst hm
  have hoff := off_set3 wr (b + 2) u0 u1 u2
  have hb := h.wb
  have g1 := h.g1
  have g6 := own_off h.dim hoff (fun k hk he => by have := (h.dim.lt k hk).1; omega)
  have hx := Blk.isInts zs (h.dat.off hoff (by omega)) (by unfold maxLen; omega)
  refine ⟨_, _, _, _, rfl, ⟨Reads.of_own g6, hx, db, Lib.hid (fun x hx => by have := xb.out x hx; omega), e0, e1⟩, ?_⟩
  rw [hb]
  exact h.bel.trans (hoff.below (by have := h.res.lt; omega) (fun i hi => by omega))
theorem RAddI.next {w wr : World} {b q g0 : Nat} {G X : List Value} {exp : Int} {d7 : Value} {dims zs : List Int} {m : Nat} (h : RAddI w b q g0 G X exp d7 dims zs m wr) (k : Nat) (y : Int) : RAddI w b q g0 G X exp d7 dims (zs.set k y) m (wr.setCell ⟨g0, k, none⟩ (.int .i32 y)) := by
  have g1 := h.g1
  have q1 := h.q1
  have hoff : Off (fun i => i = g0) wr (wr.setCell ⟨g0, k, none⟩ (.int .i32 y)) := Off.setCell (p := ⟨g0, k, none⟩) (Off.refl (fun i => i = g0) wr) (.inl rfl) _
  refine ⟨h.box.off hoff (by omega), h.box2.off hoff (by omega), h.res.off hoff (by omega), h.out.off hoff (by omega), ?_, own_off h.dim hoff (fun j hj he => by have := h.dlt j hj; omega), h.dlt, h.g1, h.q1, h.wb, ?_⟩
  · have := h.dat.put k (.int .i32 y)
    rwa [ints_set] at this
  · exact h.bel.trans (hoff.below (by have := h.dat.lt; omega) (fun i hi => by omega))

set_option maxHeartbeats 8000000 in
set_option maxRecDepth 100000 in
theorem radd_any (gd : List Int) (ge : Int) (gx xd : List Int) (xe : Int) (xx : List Int) (gv gw xv xw : Value) (w : World) (B : Nat) (hB : B ≤ w.heap.size) (h : IsT w B gv gw gd ge gx) (h' : IsT w B xv xw xd xe xx) (D : List Int) (E : Int) (X : List Int) (err : Int)
    (hD : (if addErr gd ge gx xd xe xx = 0 then gd else []) = D) (hE : (if addErr gd ge gx xd xe xx = 0 then addE ge xe else 0) = E) (hX : (if addErr gd ge gx xd xe xx = 0 then addI ge xe gx xx else []) = X) (he : addErr gd ge gx xd xe xx = err) :
    Calls Try.prog 27 #[.agg #[gv, .int .i64 ge, gw], .agg #[xv, .int .i64 xe, xw]] w (FormA w D E X err) := by
  obtain ⟨A, c, rfl, _, _⟩ := h.d.form
  obtain ⟨A', c', rfl, _, _⟩ := h.x.form
  obtain ⟨A2, c2, rfl, _, _⟩ := h'.d.form
  obtain ⟨A2', c2', rfl, _, _⟩ := h'.x.form
  simp only [length_ints] at *
  have hb0 := three_alloc0 w (.cells #[.slice A gd.length c, .int .i64 ge, .slice A' gx.length c'] 25) (.cells #[.slice A2 xd.length c2, .int .i64 xe, .slice A2' xx.length c2'] 25) (.cells #[.slice none 0 0, .int .i64 0, .slice none 0 0] 39)
  have TG := Lib.hid (h.below (hb0.mono hB))
  have TX := Lib.hid (h'.below (hb0.mono hB))
  have BB := Lib.hid hb0
  have KG := Lib.hid (((Blk.fresh w 25 [.slice A gd.length c, .int .i64 ge, .slice A' gx.length c']).alloc (.cells #[.slice A2 xd.length c2, .int .i64 xe, .slice A2' xx.length c2'] 25)).alloc (.cells #[.slice none 0 0, .int .i64 0, .slice none 0 0] 39))
  have kx := (Blk.fresh (w.alloc (.cells #[.slice A gd.length c, .int .i64 ge, .slice A' gx.length c'] 25)) 25 [.slice A2 xd.length c2, .int .i64 xe, .slice A2' xx.length c2']).alloc (.cells #[.slice none 0 0, .int .i64 0, .slice none 0 0] 39)
  have kr := Blk.fresh ((w.alloc (.cells #[.slice A gd.length c, .int .i64 ge, .slice A' gx.length c'] 25)).alloc (.cells #[.slice A2 xd.length c2, .int .i64 xe, .slice A2' xx.length c2'] 25)) 39 [.slice none 0 0, .int .i64 0, .slice none 0 0]
  simp only [World.size_alloc] at kx kr
  have KX := Lib.hid kx
  have KR := Lib.hid kr
  have HDE := Lib.hid hD
  have HEE := Lib.hid hE
  have HXE := Lib.hid hX
  have HER := Lib.hid he
  have TG0 := Lib.hid h
  have TX0 := Lib.hid h'
  clear hb0 h h' kx kr hD hE hX he
  obtain ⟨mg, hmg⟩ : ∃ m, mayB gd ge gx = m := ⟨_, rfl⟩
  obtain ⟨mx, hmx⟩ : ∃ m, mayB xd xe xx = m := ⟨_, rfl⟩
  have HMG := Lib.hid hmg
  have HMX := Lib.hid hmx
  go_enter Try.func27, Try.ntmps27
  go_wp2_with fail
  have hsz1 : (((w.alloc (.cells #[.slice A gd.length c, .int .i64 ge, .slice A' gx.length c'] 25)).alloc (.cells #[.slice A2 xd.length c2, .int .i64 xe, .slice A2' xx.length c2'] 25)).alloc (.cells #[.slice none 0 0, .int .i64 0, .slice none 0 0] 39)).heap.size = w.heap.size + 1 + 1 + 1 := by simp only [World.size_alloc]
  generalize (((w.alloc (.cells #[.slice A gd.length c, .int .i64 ge, .slice A' gx.length c'] 25)).alloc (.cells #[.slice A2 xd.length c2, .int .i64 xe, .slice A2' xx.length c2'] 25)).alloc (.cells #[.slice none 0 0, .int .i64 0, .slice none 0 0] 39)) = w1 at TG TX BB KG KX KR hsz1 ⊢
  have hsb := BB.out.size
  have hal : Below w1.heap.size w1 (w1.alloc (.cells #[.slice A gd.length c, .int .i64 ge, .slice A' gx.length c', .slice A2 xd.length c2, .int .i64 xe, .slice A2' xx.length c2'] 25)) := (Below.refl _ _).alloc (Nat.le_refl _) _
  have hM := may2t_any gd ge gx xd xe xx _ _ _ _ (w1.alloc (.cells #[.slice A gd.length c, .int .i64 ge, .slice A' gx.length c', .slice A2 xd.length c2, .int .i64 xe, .slice A2' xx.length c2'] 25)) B (w.heap.size + 1 + 1 + 1) (by simp; omega) (TG.out.below (hal.mono (by omega))) (TX.out.below (hal.mono (by omega))) (hsz1 ▸ Blk.fresh w1 25 [.slice A gd.length c, .int .i64 ge, .slice A' gx.length c', .slice A2 xd.length c2, .int .i64 xe, .slice A2' xx.length c2'])
  rw [hmg, hmx] at hM
  clear hmg hmx
  refine hM.mono ?_
  rintro e w4 ⟨rfl, hb4'⟩
  have hb4 := hal.trans (hb4'.mono (by simp))
  have hs4 := hb4.size
  have TG := Lib.hid (TG.out.below (hb4.mono (by omega)))
  have TX := Lib.hid (TX.out.below (hb4.mono (by omega)))
  have BB := Lib.hid (BB.out.trans (hb4.mono (by omega)))
  have KG := Lib.hid (KG.out.below hb4 KG.out.lt)
  have KX := Lib.hid (KX.out.below hb4 KX.out.lt)
  have KR := Lib.hid (KR.out.below hb4 KR.out.lt)
  clear hM hb4 hb4' hal hsz1
  obtain ⟨b, hb⟩ : ∃ b, w.heap.size = b := ⟨_, rfl⟩
  simp only [hb, Nat.add_assoc, Nat.reduceAdd] at KG KX KR ⊢
  have HBE := Lib.hid hb
  clear hb
  have s0 : w4.cell? ⟨b + 1, 0, none⟩ = some (.slice A2 xd.length c2) := KX.out.cell 0
  have t0 : w4.cell? ⟨b, 0, none⟩ = some (.slice A gd.length c) := KG.out.cell 0
  have t1 : w4.cell? ⟨b, 1, none⟩ = some (.int .i64 ge) := KG.out.cell 1
  have r0 : w4.cell? ⟨b + 2, 0, none⟩ = some (.slice none 0 0) := KR.out.cell 0
  have r1 : w4.cell? ⟨b + 2, 1, none⟩ = some (.int .i64 0) := KR.out.cell 1
  have r2 : w4.cell? ⟨b + 2, 2, none⟩ = some (.slice none 0 0) := KR.out.cell 2
  have f0 := KR.out.free 0
  have f1 := KR.out.free 1
  have f2 := KR.out.free 2
  by_cases hmm : mg = true ∧ mx = true
  · obtain ⟨rfl, rfl⟩ := hmm
    go_wp2_with fail
    obtain ⟨sm, hsm⟩ : ∃ m, (gd == xd) = m := ⟨_, rfl⟩
    have hS := sameints_any gd xd _ _ w4 _ _ TG.out.d TX.out.d
    rw [hsm] at hS
    have HSM := Lib.hid hsm
    clear hsm
    refine hS.mono ?_
    rintro e w5 hq
    obtain ⟨rfl, m, rfl⟩ := hq
    clear hS
    have s0 : (w4.drewN m).cell? ⟨b + 1, 0, none⟩ = some (.slice A2 xd.length c2) := s0
    have t0 : (w4.drewN m).cell? ⟨b, 0, none⟩ = some (.slice A gd.length c) := t0
    have t1 : (w4.drewN m).cell? ⟨b, 1, none⟩ = some (.int .i64 ge) := t1
    have r0 : (w4.drewN m).cell? ⟨b + 2, 0, none⟩ = some (.slice none 0 0) := r0
    have r1 : (w4.drewN m).cell? ⟨b + 2, 1, none⟩ = some (.int .i64 0) := r1
    have r2 : (w4.drewN m).cell? ⟨b + 2, 2, none⟩ = some (.slice none 0 0) := r2
    have f0 : (w4.drewN m).frozen? ⟨b + 2, 0, none⟩ = false := f0
    have f1 : (w4.drewN m).frozen? ⟨b + 2, 1, none⟩ = false := f1
    have f2 : (w4.drewN m).frozen? ⟨b + 2, 2, none⟩ = false := f2
    have TG : Hid (IsT (w4.drewN m) B _ _ _ _ _) := Lib.hid (TG.out.below (below_drewN (Below.refl _ _) _))
    have TX : Hid (IsT (w4.drewN m) B _ _ _ _ _) := Lib.hid (TX.out.below (below_drewN (Below.refl _ _) _))
    have BB := Lib.hid (below_drewN BB.out m)
    have KG := Lib.hid (KG.out.drewN m)
    have KX := Lib.hid (KX.out.drewN m)
    have KR := Lib.hid (KR.out.drewN m)
    have hs5 : w4.heap.size = (w4.drewN m).heap.size := rfl
    generalize w4.drewN m = w6 at *
    cases sm with
    | false =>
      have hne : addErr gd ge gx xd xe xx = 2 := by unfold addErr; rw [if_pos ⟨HMG.out, HMX.out⟩, if_neg (by have := HSM.out; simpa using this)]
      have HNE := Lib.hid hne
      clear hne
      go_wp2
      refine bodyPost_ret (v := .tuple #[.agg #[.slice none 0 0, .int .i64 0, .slice none 0 0], .int .i64 2]) (by simp [results, Try.results27, go_sem, r0, r1, r2]) rfl ?_
      exact add_no BB.out HBE.out KR.out.lt (by rw [← HDE.out, HNE.out]; rfl) (by rw [← HEE.out, HNE.out]; rfl) (by rw [← HXE.out, HNE.out]; rfl) (by rw [← HER.out, HNE.out]) _ _ _

    | true =>
      have hdd : gd = xd := by have := HSM.out; simpa using this
      have hne : addErr gd ge gx xd xe xx = 0 := by unfold addErr; rw [if_pos ⟨HMG.out, HMX.out⟩, if_pos hdd]
      have hlen : gx.length = xx.length := by
        have h1 := may_len HMG.out
        have h2 := may_len HMX.out
        rw [hdd] at h1
        omega
      have hex : ∀ {d : List Int} {e : Int} {x : List Int}, mayB d e x = true → (-64 ≤ e ∧ e ≤ 64) ∧ 0 < sizeI d := by
        intro d e x h
        unfold mayB at h
        simp only [Bool.and_eq_true, decide_eq_true_eq, beq_iff_eq] at h
        exact ⟨⟨h.2.2.1, h.2.2.2.1⟩, h.1⟩
      obtain ⟨⟨g0, g1⟩, hgp⟩ := hex HMG.out
      obtain ⟨⟨p0, p1⟩, _⟩ := hex HMX.out
      have hl1 := may_len HMG.out
      have hl2 := sizeI_bound gd
      have hl3 := may_dims HMG.out
      have hgl : gx.length ≤ 8192 := by omega
      obtain ⟨e, hee⟩ : ∃ e, max (min ge xe) (max ge xe - 12) = e := ⟨_, rfl⟩
      have heb : -64 ≤ e ∧ e ≤ 64 ∧ ge - e ≤ 12 ∧ xe - e ≤ 12 := by omega
      have HAE : Hid (addE ge xe = e) := Lib.hid hee
      have HACC : Hid (∀ (W : World) (V : Value), Reads W W.heap.size V (ints .i64 gd) → Calls Try.prog 43 #[V, .int .i64 e] W (FormZ W V e gx.length)) := Lib.hid (fun W V hV => racc_any gd e V W _ _ (Nat.le_refl _) hV TG0.out.db.out hgp hl1.symm (by omega) (by omega))
      have HLEN := Lib.hid hlen
      have HNE := Lib.hid hne
      have HEE2 := Lib.hid hee
      have tx1 : w6.cell? ⟨b + 1, 1, none⟩ = some (.int .i64 xe) := KX.out.cell 1
      obtain ⟨eb0, eb1, eb2, eb3⟩ := heb
      have hBW : B ≤ w6.heap.size := by omega
      clear hdd hne hl1 hl2 hlen hex hgp hee s0 r0 r1 r2 f0 f1 f2
      go_upto_region 6 with fail
      rw [HEE2.out]
      have hs5b : b + 2 < w6.heap.size := KR.out.lt
      go_wp2_with (at_builtin; refine wpList_extend elem_int _ rfl (.const (.slice none 0 0)) (.tmp 37) rfl w6.heap.size 0 (.slice none 0 0) [] rfl (World.ownsRow_nil _ _ _ _) B _ (ints .i64 gd) rfl TG.out.d (ints_one _ _) (by rw [length_ints]; unfold maxLen; omega) (by rw [length_ints]; omega) (Nat.le_refl _) ?_; intro A7 c7 w7 hown7 hgrow7 hfr7; rw [Nat.zero_add, List.nil_append, length_ints] at hown7; rw [Nat.zero_add, length_ints])
      have hb7 := (Below.refl w6.heap.size w6).grown hgrow7 (Nat.le_refl _) (fun k hk => by cases hk)
      have hs7 := hb7.size
      refine (HACC.out _ _ (Reads.of_own hown7)).mono ?_
      rintro en w8 ⟨g0', rfl, kz, hg8, hb8⟩
      rw [ints_replicateZ] at kz
      have hs8 := hb8.size
      have hod := own_off (own_bel3 hown7 hb8) ((Off.refl (fun _ => False) w8).alloc (.cells #[.slice A7 gd.length c7, .int .i64 e, .slice (some ⟨g0', 0, none⟩) gx.length gx.length] 39)) (fun _ _ h => h)
      have hst : RAddI w b w8.heap.size g0' [.slice A gd.length c, .int .i64 ge, .slice A' gx.length c'] [.slice A2 xd.length c2, .int .i64 xe, .slice A2' xx.length c2'] e (.slice A7 gd.length c7) gd (List.replicate gx.length 0) gx.length (w8.alloc (.cells #[.slice A7 gd.length c7, .int .i64 e, .slice (some ⟨g0', 0, none⟩) gx.length gx.length] 39)) :=
        ⟨((KG.out.below hb7 KG.out.lt).below hb8 (by have := KG.out.lt; omega)).alloc _, ((KX.out.below hb7 KX.out.lt).below hb8 (by have := KX.out.lt; omega)).alloc _, ((KR.out.below hb7 KR.out.lt).below hb8 (by have := KR.out.lt; omega)).alloc _, Blk.fresh w8 39 _, kz.alloc _, own_lower hod (by omega), fun k hk => by have := (hown7.lt k hk).2; omega, by omega, kz.lt, HBE.out, by
          have hb := HBE.out
          have h1 := BB.out
          rw [hb] at h1
          exact ((h1.trans (hb7.mono (by omega))).trans (hb8.mono (by omega))).alloc (by omega) _⟩
      have HST := Lib.hid hst
      obtain ⟨zs, hzs⟩ : ∃ zs, addI ge xe gx xx = zs := ⟨_, rfl⟩
      have hzl : zs.length = gx.length := by rw [← hzs]; exact addI_length ge xe gx xx HLEN.out
      have HZS := Lib.hid hzs
      have HZL := Lib.hid hzl
      clear hst hod kz hb8 hb7 hown7 hgrow7 hfr7 hzs hzl t0 t1 tx1 TG TX BB KG KX KR HACC HEE2
      go_wp2_with fail
      generalize (w8.alloc (.cells #[.slice A7 gd.length c7, .int .i64 e, .slice (some ⟨g0', 0, none⟩) gx.length gx.length] 39)) = wA at HST ⊢
      generalize w8.heap.size = q at HST ⊢
      clear hs7 hs8 hg8
      go_loopw [46] (fun i wr => ∃ (k : Nat) (ys : List Int), k ≤ gx.length ∧ i = .int .i64 k ∧ ys.length = gx.length ∧ ys.take k = zs.take k ∧ RAddI w b q g0' [.slice A gd.length c, .int .i64 ge, .slice A' gx.length c'] [.slice A2 xd.length c2, .int .i64 xe, .slice A2' xx.length c2'] e (.slice A7 gd.length c7) gd ys gx.length wr) (fun i _ => gx.length - (intOf i).toNat)
      case atStart => exact ⟨0, _, by omega, rfl, by simp, by simp, HST.out⟩
      case round =>
        obtain ⟨k, ys, hk, rfl, hyl, hyk, hwr⟩ := hrel
        by_cases hlt : k < gx.length
        · have hlen := HLEN.out
          have hzl := HZL.out
          obtain ⟨x1, hx1⟩ : ∃ x1, gx[k]? = some x1 := ⟨gx[k], List.getElem?_eq_getElem (by omega)⟩
          obtain ⟨y1, hy1⟩ : ∃ y1, xx[k]? = some y1 := ⟨xx[k]'(by omega), List.getElem?_eq_getElem (by omega)⟩
          have hzk := addI_at ge xe gx xx k x1 y1 hx1 hy1
          rw [HZS.out, HAE.out] at hzk
          have hxb := TG0.out.xb.out x1 (List.mem_of_getElem? hx1)
          have hyb := TX0.out.xb.out y1 (List.mem_of_getElem? hy1)
          have ha1 := align_in (v := x1) (b := ge - e) eb2 hxb.1 hxb.2
          have ha2 := align_in (v := y1) (b := xe - e) eb3 hyb.1 hyb.2
          have HA1 : Hid (∀ W : World, Calls Try.prog 44 #[.int .i64 (IntKind.i64.wrap x1), .int .i64 ge, .int .i64 e] W fun en w' => en = .returned (.int .i64 (alignI x1 (ge - e))) ∧ W = w') := Lib.hid (fun W => by rw [IntWalk.i64_in x1 (by omega)]; exact ralign_any x1 ge e W hxb.1 hxb.2 g0 g1 (by omega) (by omega) eb2)
          have HA2 : Hid (∀ W : World, Calls Try.prog 44 #[.int .i64 (IntKind.i64.wrap y1), .int .i64 xe, .int .i64 e] W fun en w' => en = .returned (.int .i64 (alignI y1 (xe - e))) ∧ W = w') := Lib.hid (fun W => by rw [IntWalk.i64_in y1 (by omega)]; exact ralign_any y1 xe e W hyb.1 hyb.2 p0 p1 (by omega) (by omega) eb3)
          generalize alignI x1 (ge - e) = r1 at ha1 HA1 hzk
          generalize alignI y1 (xe - e) = r2 at ha2 HA2 hzk
          obtain ⟨xb0, xb1⟩ := hxb
          obtain ⟨yb0, yb1⟩ := hyb
          obtain ⟨ra0, ra1⟩ := ha1
          obtain ⟨rb0, rb1⟩ := ha2
          have hnx := set_next hyk hzk (by omega)
          have hBb : B ≤ b := by have := HBE.out; omega
          have hxr := (TG0.out.below (hwr.bel.mono hBb)).x
          have hyr := (TX0.out.below (hwr.bel.mono hBb)).x
          obtain ⟨AA, n1, cc, hva, hn, hcc, hmm2, ha⟩ := hxr
          injection hva with q1 q2 q3
          subst q1 q2 q3
          obtain ⟨AA', n1', cc', hva', hn', hcc', hmm', ha'⟩ := hyr
          injection hva' with q1 q2 q3
          subst q1 q2 q3
          obtain ⟨g, o, rfl, hg, hx⟩ := ha.out (by omega)
          obtain ⟨g', o', rfl, hg', hy⟩ := ha'.out (by omega)
          have hg1 := hwr.g1
          have hq1 := hwr.q1
          have hql := hwr.out.lt
          obtain ⟨s1, hs1⟩ : ∃ s, ys[k]? = some s := ⟨ys[k]'(by omega), List.getElem?_eq_getElem (by omega)⟩
          have d1 : wr.drew.cell? ⟨g0', k, none⟩ = some (.int .i32 s1) := (hwr.dat.cell k).trans (by rw [ints, List.getElem?_map, hs1]; rfl)
          have f1 : wr.drew.frozen? ⟨g0', k, none⟩ = false := hwr.dat.free k
          have i1 : (0 : Int) ≤ (k : Int) := by omega
          have i2 : (k : Int) < (gx.length : Int) := by omega
          have i2' : (k : Int) < (xx.length : Int) := by omega
          have i3 : (k : Int) ≤ 9223372036854775806 := by omega
          have ge1 : wr.drew.cell? ⟨b, 1, none⟩ = some (.int .i64 ge) := hwr.box.cell 1
          have ge2 : wr.drew.cell? ⟨b, 2, none⟩ = some (.slice (some ⟨g, o, none⟩) gx.length c') := hwr.box.cell 2
          have xe1 : wr.drew.cell? ⟨b + 1, 1, none⟩ = some (.int .i64 xe) := hwr.box2.cell 1
          have xe2 : wr.drew.cell? ⟨b + 1, 2, none⟩ = some (.slice (some ⟨g', o', none⟩) xx.length c2') := hwr.box2.cell 2
          have oq : wr.drew.cell? ⟨q, 2, none⟩ = some (.slice (some ⟨g0', 0, none⟩) gx.length gx.length) := hwr.out.cell 2
          have dz1 : wr.drew.cell? ⟨g, o + k, none⟩ = some (.int .i8 x1) := hx k (.int .i8 x1) (by rw [ints, List.getElem?_map, hx1]; rfl)
          have dz2 : wr.drew.cell? ⟨g', o' + k, none⟩ = some (.int .i8 y1) := hy k (.int .i8 y1) (by rw [ints, List.getElem?_map, hy1]; rfl)
          have hoff : ∀ y : Int, Off (fun i => i = g0') wr.drew (wr.setCell ⟨g0', k, none⟩ (.int .i32 y)).drew := fun y => (Off.setCell (a := wr.drew) (b := wr.drew) (p := ⟨g0', k, none⟩) (Off.refl (fun i => i = g0') wr.drew) (.inl rfl) _)
          have hll : q < wr.drew.heap.size := hql
          have cge1 : Hid (∀ y : Int, (wr.setCell ⟨g0', k, none⟩ (.int .i32 y)).drew.cell? ⟨b, 1, none⟩ = some (.int .i64 ge)) := Lib.hid (fun y => ((hoff y).cell (p := ⟨b, 1, none⟩) (by show b < wr.drew.heap.size; omega) (by show ¬ b = g0'; omega)).trans ge1)
          have cge2 : Hid (∀ y : Int, (wr.setCell ⟨g0', k, none⟩ (.int .i32 y)).drew.cell? ⟨b, 2, none⟩ = some (.slice (some ⟨g, o, none⟩) gx.length c')) := Lib.hid (fun y => ((hoff y).cell (p := ⟨b, 2, none⟩) (by show b < wr.drew.heap.size; omega) (by show ¬ b = g0'; omega)).trans ge2)
          have cxe1 : Hid (∀ y : Int, (wr.setCell ⟨g0', k, none⟩ (.int .i32 y)).drew.cell? ⟨b + 1, 1, none⟩ = some (.int .i64 xe)) := Lib.hid (fun y => ((hoff y).cell (p := ⟨b + 1, 1, none⟩) (by show b + 1 < wr.drew.heap.size; omega) (by show ¬ b + 1 = g0'; omega)).trans xe1)
          have cxe2 : Hid (∀ y : Int, (wr.setCell ⟨g0', k, none⟩ (.int .i32 y)).drew.cell? ⟨b + 1, 2, none⟩ = some (.slice (some ⟨g', o', none⟩) xx.length c2')) := Lib.hid (fun y => ((hoff y).cell (p := ⟨b + 1, 2, none⟩) (by show b + 1 < wr.drew.heap.size; omega) (by show ¬ b + 1 = g0'; omega)).trans xe2)
          have coq : Hid (∀ y : Int, (wr.setCell ⟨g0', k, none⟩ (.int .i32 y)).drew.cell? ⟨q, 2, none⟩ = some (.slice (some ⟨g0', 0, none⟩) gx.length gx.length)) := Lib.hid (fun y => ((hoff y).cell (p := ⟨q, 2, none⟩) (by show q < wr.drew.heap.size; omega) (by show ¬ q = g0'; omega)).trans oq)
          have cdz1 : Hid (∀ y : Int, (wr.setCell ⟨g0', k, none⟩ (.int .i32 y)).drew.cell? ⟨g, o + k, none⟩ = some (.int .i8 x1)) := Lib.hid (fun y => ((hoff y).cell (p := ⟨g, o + k, none⟩) (by show g < wr.drew.heap.size; omega) (by show ¬ g = g0'; omega)).trans dz1)
          have cdz2 : Hid (∀ y : Int, (wr.setCell ⟨g0', k, none⟩ (.int .i32 y)).drew.cell? ⟨g', o' + k, none⟩ = some (.int .i8 y1)) := Lib.hid (fun y => ((hoff y).cell (p := ⟨g', o' + k, none⟩) (by show g' < wr.drew.heap.size; omega) (by show ¬ g' = g0'; omega)).trans dz2)
          have HNX := Lib.hid hnx
          have HWN := Lib.hid (hwr.next k (r1 + r2)).drew
          have HYL := Lib.hid hyl
          clear hoff hnx hzk hlen hzl hx1 hy1 hx hy ha ha' hg hg' hcc hcc' hmm2 hmm' hn hn' hs1 hwr hyk hyl HST
          go_wp2_with fail
          go_region_held3 (fun w' => w'.cell? ⟨b, 1, none⟩ = some (.int .i64 ge) ∧ w'.cell? ⟨b, 2, none⟩ = some (.slice (some ⟨g, o, none⟩) gx.length c') ∧ w'.cell? ⟨b + 1, 1, none⟩ = some (.int .i64 xe) ∧ w'.cell? ⟨b + 1, 2, none⟩ = some (.slice (some ⟨g', o', none⟩) xx.length c2') ∧ w'.cell? ⟨q, 2, none⟩ = some (.slice (some ⟨g0', 0, none⟩) gx.length gx.length) ∧ w'.cell? ⟨g, o + k, none⟩ = some (.int .i8 x1) ∧ w'.cell? ⟨g', o' + k, none⟩ = some (.int .i8 y1)) (first | (with_reducible exact ⟨ge1, ge2, xe1, xe2, oq, dz1, dz2⟩) | (with_reducible exact ⟨cge1.out _, cge2.out _, cxe1.out _, cxe2.out _, coq.out _, cdz1.out _, cdz2.out _⟩)) (first
            | (go_at_call 44; (with_reducible refine (HA1.out _).mono ?_); rintro en w9 ⟨rfl, rfl⟩)
            | (go_at_call 44; (with_reducible refine (HA2.out _).mono ?_); rintro en w9 ⟨rfl, rfl⟩))
          all_goals
            have hw1 : IntKind.i64.wrap (r1 + r2) = r1 + r2 := IntWalk.i64_in _ (by omega)
            have hw2 : IntKind.i32.wrap (r1 + r2) = r1 + r2 := IntWalk.i32_in _ (by omega)
            (try rw [hw1])
            (try rw [hw2])
            clear hw1 hw2
            go_wp2
            go_roundw
            case rel => exact ⟨k + 1, _, by omega, by go_num, by rw [List.length_set]; exact HYL.out, HNX.out, HWN.out⟩
            case measure => simp [intOf]; omega
        · obtain rfl : k = gx.length := by omega
          have e0' : ys = zs := by
            rw [List.take_of_length_le (by omega), List.take_of_length_le (by have := HZL.out; omega)] at hyk
            exact hyk
          subst e0'
          have h0 : wr.cell? ⟨q, 0, none⟩ = some (.slice A7 gd.length c7) := hwr.out.cell 0
          have h1 : wr.cell? ⟨q, 1, none⟩ = some (.int .i64 e) := hwr.out.cell 1
          have h2 : wr.cell? ⟨q, 2, none⟩ = some (.slice (some ⟨g0', 0, none⟩) gx.length gx.length) := hwr.out.cell 2
          have z0 : wr.cell? ⟨b + 2, 0, none⟩ = some (.slice none 0 0) := hwr.res.cell 0
          have z1 : wr.cell? ⟨b + 2, 1, none⟩ = some (.int .i64 0) := hwr.res.cell 1
          have z2 : wr.cell? ⟨b + 2, 2, none⟩ = some (.slice none 0 0) := hwr.res.cell 2
          have y0 := hwr.res.free 0
          have y1 := hwr.res.free 1
          have y2 := hwr.res.free 2
          have HWR := Lib.hid hwr
          have HYL := Lib.hid hyl
          clear hwr hyk hyl HST
          go_wp2
          refine bodyPost_ret (v := .tuple #[.agg #[.slice A7 gd.length c7, .int .i64 e, .slice (some ⟨g0', 0, none⟩) gx.length gx.length], .int .i64 0]) (by simp [results, Try.results27, go_sem, z0, z1, z2]) rfl ?_
          have e1 : gd = D := by have := HDE.out; rwa [if_pos HNE.out] at this
          have e2 : e = E := by have := HEE.out; rw [if_pos HNE.out] at this; rw [← HAE.out]; exact this
          have e3 : ys = X := by have := HXE.out; rw [if_pos HNE.out] at this; rw [← HZS.out]; exact this
          have e4 : err = 0 := by rw [← HER.out]; exact HNE.out
          have hyb := addI_in ge xe gx xx TG0.out.xb.out TX0.out.xb.out
          rw [HZS.out] at hyb
          rw [← e1, ← e2, ← e3, e4]
          exact HWR.out.fin HYL.out (by omega) _ _ _ TG0.out.db (Lib.hid hyb) (by omega) (by omega)
  · have hne : addErr gd ge gx xd xe xx = 1 := by unfold addErr; rw [if_neg (fun h => hmm ⟨HMG.out.symm.trans h.1, HMX.out.symm.trans h.2⟩)]
    have HNE := Lib.hid hne
    have hmf : (mg && mx) = false := by rw [Bool.eq_false_iff]; intro h; rw [Bool.and_eq_true] at h; exact hmm h
    rw [hmf]
    clear hne hmm hmf
    go_wp2
    refine bodyPost_ret (v := .tuple #[.agg #[.slice none 0 0, .int .i64 0, .slice none 0 0], .int .i64 1]) (by simp [results, Try.results27, go_sem, r0, r1, r2]) rfl ?_
    exact add_no BB.out HBE.out KR.out.lt (by rw [← HDE.out, HNE.out]; rfl) (by rw [← HEE.out, HNE.out]; rfl) (by rw [← HXE.out, HNE.out]; rfl) (by rw [← HER.out, HNE.out]) _ _ _


end Go.Proofs.Ythdahnjghpiheaa
