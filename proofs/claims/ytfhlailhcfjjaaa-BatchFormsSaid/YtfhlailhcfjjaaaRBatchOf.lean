/- Contract of pedagogueref18.BatchOf. -/
import Derived.Test.YtfhlailhcfjjaaaBatchOf
import Derived.Test.YtfhlailhcfjjaaaRefDims
import Derived.Test.YtfhlailhcfjjaaaDataRef
import Derived.Deep.DeepCutAuto
import Derived.Deep.RegionHeld3
import Derived.Deep.DrawnRows
import Derived.Outline
namespace Go.Proofs.Ytfhlailhcfjjaaa
open Go.RowKit
set_option linter.unusedVariables false
set_option linter.unusedSimpArgs false

section
variable {w0 W W' : World} {G p : Nat} {A0 : Option Addr} {c0 : Nat} {ds : List Int} {e : Int} {v v' : Value} {xs xs' : List Int} {lv lv' : Value} {ls ls' : List Int} {oth : List (Nat × TypeId × List Value)}
theorem OfS.data (h : OfS w0 W G p A0 c0 ds e v xs lv ls oth) {Wa W1 : World} (hA : Off (fun _ => False) W Wa) (hg1 : Wa.grownBy W1 v.ownBlock) (hf1 : Fresh Wa v v') (ho1 : W1.ownsRow G 52 1 v' xs'.length (ints .i8 xs')) : OfS w0 (W1.setCell ⟨p, 2, none⟩ v') G p A0 c0 ds e v' xs' lv ls oth := by
  obtain ⟨h1, h2⟩ := h.lab1 hA hg1 (Off.refl _ W1)
  refine h.step (h2.mono (fun i hi => .inl (.inl hi))) ho1 h1 (fun k hk hl => ?_)
  rcases hf1.off hk with h4 | h4
  · exact h.ap k h4 hl
  · have := (h.lab.lt k hl).2
    have := hA.size
    omega
theorem OfS.labels (h : OfS w0 W G p A0 c0 ds e v xs lv ls oth) {Wa W1 : World} (hA : Off (fun _ => False) W Wa) (hg1 : Wa.grownBy W1 lv.ownBlock) (hf1 : Fresh Wa lv lv') (ho1 : W1.ownsRow G 3 1 lv' ls'.length (ints .i64 ls')) : OfS w0 W1 G p A0 c0 ds e v xs lv' ls' oth := by
  have hlo := h.lo
  have hlG : ∀ k, lv.ownBlock = some k → G ≤ k := fun k hk => (h.lab.lt k hk).1
  have ho : Off (fun i => lv.ownBlock = some i) W W1 := (hA.mono (T := fun i => lv.ownBlock = some i) (fun i hi => hi.elim)).grown hg1 (fun k hk => .inl hk)
  have hn : ∀ i, i < G → ¬ (lv.ownBlock = some i) := fun i hi hs => by have := hlG i hs; omega
  have hsz := ho.size
  refine ⟨h.bel.trans (ho.below h.bel.size (fun i hi => by have := hlG i hi; omega)), ⟨hlo.1, hlo.2.1, by omega⟩, h.blk.off ho (hn p hlo.2.1), own_off h.own ho (fun k hk hl => h.ap k hk hl), ho1, fun k hk hl => ?_, ⟨own_off h.dims.1 ho (fun k hk => hn k (h.dims.2 k hk).1), h.dims.2⟩, fun b hm => ⟨(h.oth b hm).1.off ho (hn _ (h.oth b hm).2.1), (h.oth b hm).2⟩⟩
  rcases hf1.off hl with h4 | h4
  · exact h.ap k hk h4
  · have := (h.own.lt k hk).2
    have := hA.size
    omega
end
theorem inD_id (d : DatV) (y : Int) : inD y 0 ((d.xs.length : Int) - 1) = idIn d y := by
  unfold inD idIn
  congr 1
  exact decide_eq_decide.2 (by omega)
theorem inD_len {n : Nat} (h : inD (n : Int) 1 64 = true) : 1 ≤ n ∧ n ≤ 64 := by
  unfold inD at h
  simp only [Bool.and_eq_true, decide_eq_true_eq] at h
  omega
theorem inD_not {n : Nat} (h : inD (n : Int) 1 64 = false) : ¬ (1 ≤ n ∧ n ≤ 64) := by
  intro h2
  have : inD (n : Int) 1 64 = true := by
    unfold inD
    simp only [Bool.and_eq_true, decide_eq_true_eq]
    omega
  rw [this] at h
  cases h
theorem idsOk_at {d : DatV} {ids : List Int} (h : idsOk d ids = true) {k : Nat} {y : Int} (hk : ids[k]? = some y) : idIn d y = true := by
  unfold idsOk at h
  exact List.all_eq_true.1 h y (List.mem_of_getElem? hk)
theorem idsOk_take {d : DatV} {ids : List Int} (h : idsOk d ids = true) (k : Nat) : idsOk d (ids.take k) = true := by
  unfold idsOk at h ⊢
  exact List.all_eq_true.2 fun y hy => List.all_eq_true.1 h y (List.mem_of_mem_take hy)
theorem rowDims {W : World} {g base : Nat} {l : List Int} (h : Blk W g 3 (ints .i64 l)) (hl : l.length ≤ 100) (hb : base ≤ g) : W.ownsRow base 3 1 (.slice (some ⟨g, 0, none⟩) l.length l.length) l.length (ints .i64 l) := h.ownAll hb (by unfold maxLen; omega) (length_ints _ _)
theorem rowDims4 {W : World} {g : Nat} {l : List Int} (h : Blk W g 3 (ints .i64 l)) (hl : l.length ≤ 100) : Reads W W.heap.size (.slice (some ⟨g, 0, none⟩) l.length l.length) (ints .i64 l) := h.reads (length_ints _ _) (by unfold maxLen; omega)
theorem cell_below {w w' : World} {B : Nat} {p : Addr} {u : Value} (h : Below B w w') (hp : p.block < B) (hu : w.cell? p = some u) : w'.cell? p = some u := (World.cell?_of_block (w := w) (h.block p.block hp)).trans hu
set_option maxRecDepth 100000 in
set_option maxHeartbeats 6400000 in
theorem rof_any (v : Value) (d : DatV) (u : Value) (ids : List Int) (w : World) (B : Nat) (hB : B ≤ w.heap.size) (h : DataOf w B v d) (hi : Reads w B u (ints .i64 ids)) (hbd : ∀ x ∈ ids, inW x) (hil : ids.length ≤ 17592186044416) : Calls Try.prog 24 #[v, u] w (OfGot w d ids) := by
  have HBY := Lib.hid (show bytesD d from fun e he => (h.xs.ok.out e he).data)
  have h0 := h
  obtain ⟨rfl, hwd, hx⟩ := h
  obtain ⟨A, k, hlv⟩ := hx.form
  rw [hlv] at h0 hx ⊢
  clear hlv
  obtain ⟨Ai, ci, rfl, _, _⟩ := hi.form
  rw [length_ints] at hi ⊢
  have hlen := hx.len
  have hb1 := (one_alloc w (.cells #[.int .i64 d.a, .int .i64 d.b, .int .i64 d.c, .int .i64 d.exp, .int .i64 d.cl, .slice A d.xs.length k] 33)).alloc (by rw [World.size_alloc]; omega) (.cells #[.slice none 0 0, .int .i64 0, .slice none 0 0] 47)
  have hk1 := (Blk.fresh w 33 [.int .i64 d.a, .int .i64 d.b, .int .i64 d.c, .int .i64 d.exp, .int .i64 d.cl, .slice A d.xs.length k]).alloc (.cells #[.slice none 0 0, .int .i64 0, .slice none 0 0] 47)
  have hk2 := Blk.fresh (w.alloc (.cells #[.int .i64 d.a, .int .i64 d.b, .int .i64 d.c, .int .i64 d.exp, .int .i64 d.cl, .slice A d.xs.length k] 33)) 47 [.slice none 0 0, .int .i64 0, .slice none 0 0]
  rw [World.size_alloc] at hk2
  obtain ⟨r, hr⟩ : ∃ r, mayD d = r := ⟨_, rfl⟩
  have HM := Lib.hid (rmayd_any _ _ ((w.alloc (.cells #[.int .i64 d.a, .int .i64 d.b, .int .i64 d.c, .int .i64 d.exp, .int .i64 d.cl, .slice A d.xs.length k] 33)).alloc (.cells #[.slice none 0 0, .int .i64 0, .slice none 0 0] 47)) B (by have := hb1.size; omega) (h0.below (hb1.mono hB)) r hr)
  have HB1 := Lib.hid hb1
  have K1 := Lib.hid hk1
  have K2 := Lib.hid hk2
  have HR := Lib.hid hr
  have HX := Lib.hid hx
  have HI := Lib.hid hi
  have HBD := Lib.hid hbd
  have s1 := hb1.size
  have l1 := hk1.lt
  have l2 := hk2.lt
  clear h0 hx hi hbd hb1 hk1 hk2 hr hwd
  go_enter Try.func24, Try.ntmps24
  go_wp2_with fail
  generalize ((w.alloc (.cells #[.int .i64 d.a, .int .i64 d.b, .int .i64 d.c, .int .i64 d.exp, .int .i64 d.cl, .slice A d.xs.length k] 33)).alloc (.cells #[.slice none 0 0, .int .i64 0, .slice none 0 0] 47)) = w1 at HM HB1 K1 K2 s1 l1 l2 ⊢
  refine HM.out.mono ?_
  rintro en w2 ⟨rfl, hw⟩
  have HB2 := Lib.hid (HB1.out.trans (hw.mono s1))
  have K12 := Lib.hid (K1.out.below hw l1)
  have K22 := Lib.hid (K2.out.below hw l2)
  have s2 := HB2.out.size
  have l12 := K12.out.lt
  have l22 := K22.out.lt
  clear hw HM HB1 K1 K2 s1 l1 l2
  cases r with
  | false =>
      have hkr := K22.out
      have hmr : w.heap.size + 1 < w2.heap.size := hkr.lt
      have z0 := hkr.cell 0
      have z1 := hkr.cell 1
      have z2 := hkr.cell 2
      have f0 := hkr.free 0
      have f1 := hkr.free 1
      have f2 := hkr.free 2
      simp only [List.getElem?_cons_zero, List.getElem?_cons_succ] at z0 z1 z2
      clear hkr
      go_wp2_with fail
      have hq := three_ok K22.out (.slice none 0 0) (.int .i64 0) (.slice none 0 0)
      clear z0 z1 z2 f0 f1 f2 hmr
      generalize (((w2.setCell ⟨w.heap.size + 1, 0, none⟩ (.slice none 0 0)).setCell ⟨w.heap.size + 1, 1, none⟩ (.int .i64 0)).setCell ⟨w.heap.size + 1, 2, none⟩ (.slice none 0 0)) = WF at hq ⊢
      obtain ⟨hqo, hqb⟩ := hq
      have n0 := hqb.cell 0
      have n1 := hqb.cell 1
      have n2 := hqb.cell 2
      simp only [List.getElem?_cons_zero, List.getElem?_cons_succ] at n0 n1 n2
      refine bodyPost_ret (v := .tuple #[.agg #[.slice none 0 0, .int .i64 0, .slice none 0 0], .slice none 0 0, .int .i64 1]) ?_ rfl ?_
      · simp [results, Try.results24, asAddr, Result.andThen, n0, n1, n2, go_sem]
      · exact ofGot_none (HB2.out.trans (hqo.below HB2.out.size (fun i hi => by omega))) (ofOk_may HR.out)
  | true =>
    obtain ⟨r2, hr2⟩ : ∃ r2, inD (ids.length : Int) 1 64 = r2 := ⟨_, rfl⟩
    have HIN := Lib.hid (rin_any (ids.length : Int) 1 64 r2 hr2 w2)
    have HR2 := Lib.hid hr2
    clear hr2
    go_wp2_with fail
    refine HIN.out.mono ?_
    rintro en w3 ⟨rfl, rfl⟩
    clear HIN
    cases r2 with
    | false =>
      have HO := Lib.hid (ofOk_len (d := d) (inD_not HR2.out))
      have hkr := K22.out
      have hmr : w.heap.size + 1 < w2.heap.size := hkr.lt
      have z0 := hkr.cell 0
      have z1 := hkr.cell 1
      have z2 := hkr.cell 2
      have f0 := hkr.free 0
      have f1 := hkr.free 1
      have f2 := hkr.free 2
      simp only [List.getElem?_cons_zero, List.getElem?_cons_succ] at z0 z1 z2
      clear hkr
      go_wp2_with fail
      have hq := three_ok K22.out (.slice none 0 0) (.int .i64 0) (.slice none 0 0)
      clear z0 z1 z2 f0 f1 f2 hmr
      generalize (((w2.setCell ⟨w.heap.size + 1, 0, none⟩ (.slice none 0 0)).setCell ⟨w.heap.size + 1, 1, none⟩ (.int .i64 0)).setCell ⟨w.heap.size + 1, 2, none⟩ (.slice none 0 0)) = WF at hq ⊢
      obtain ⟨hqo, hqb⟩ := hq
      have n0 := hqb.cell 0
      have n1 := hqb.cell 1
      have n2 := hqb.cell 2
      simp only [List.getElem?_cons_zero, List.getElem?_cons_succ] at n0 n1 n2
      refine bodyPost_ret (v := .tuple #[.agg #[.slice none 0 0, .int .i64 0, .slice none 0 0], .slice none 0 0, .int .i64 1]) ?_ rfl ?_
      · simp [results, Try.results24, asAddr, Result.andThen, n0, n1, n2, go_sem]
      · exact ofGot_none (HB2.out.trans (hqo.below HB2.out.size (fun i hi => by omega))) HO.out
    | true =>
      obtain ⟨hl1, hl2⟩ := inD_len HR2.out
      go_wp2_with fail
      go_loopw [25] (fun i wr => ∃ j : Nat, j ≤ ids.length ∧ i = .int .i64 j ∧ Hid (idsOk d (ids.take j) = true) ∧ w2 = wr) (fun i _ => ids.length - (intOf i).toNat)
      case atStart => exact ⟨0, by omega, rfl, Lib.hid (by simp [idsOk]), rfl⟩
      case round =>
        obtain ⟨j, hj, rfl, hjo, rfl⟩ := hrel
        by_cases hlt : j < ids.length
        · obtain ⟨A9, n9, c9, e9, _, _, _, hat⟩ := HI.out.below (HB2.out.mono hB)
          injection e9 with e91 e92 e93
          subst e91 e92 e93
          obtain ⟨gi, oi, rfl, hgi, hxi⟩ := hat.out (by omega)
          have r1 := hxi j (.int .i64 ids[j]) (ints_at _ _ _ hlt)
          have HY : Hid (ids[j]? = some ids[j]) := Lib.hid (List.getElem?_eq_getElem hlt)
          generalize ids[j] = y at r1 HY
          obtain ⟨r3, hr3⟩ : ∃ r3, idIn d y = r3 := ⟨_, rfl⟩
          have HIN := Lib.hid (rin_any y 0 ((d.xs.length : Int) - 1) r3 (by rw [inD_id]; exact hr3) w2)
          have HR3 := Lib.hid hr3
          have hw : wrap64 ((d.xs.length : Int) - 1) = (d.xs.length : Int) - 1 := IntWalk.wrap64_in _ (by omega)
          have i1 : (0 : Int) ≤ (j : Int) := by omega
          have i2 : (j : Int) < (ids.length : Int) := by omega
          have m5 := K12.out.cell 5
          simp only [List.getElem?_cons_zero, List.getElem?_cons_succ] at m5
          clear hat hxi hr3
          go_wp2_with fail
          refine HIN.out.mono ?_
          rintro en w3 ⟨rfl, rfl⟩
          clear HIN hw r1
          cases r3 with
          | false =>
            have HO := Lib.hid (ofOk_bad (idsOk_bad HY.out HR3.out))
            have hkr := K22.out
            have hmr : w.heap.size + 1 < w2.heap.size := hkr.lt
            have z0 := hkr.cell 0
            have z1 := hkr.cell 1
            have z2 := hkr.cell 2
            have f0 := hkr.free 0
            have f1 := hkr.free 1
            have f2 := hkr.free 2
            simp only [List.getElem?_cons_zero, List.getElem?_cons_succ] at z0 z1 z2
            clear hkr
            go_wp2_with fail
            have hq := three_ok K22.out (.slice none 0 0) (.int .i64 0) (.slice none 0 0)
            clear z0 z1 z2 f0 f1 f2 hmr
            generalize (((w2.setCell ⟨w.heap.size + 1, 0, none⟩ (.slice none 0 0)).setCell ⟨w.heap.size + 1, 1, none⟩ (.int .i64 0)).setCell ⟨w.heap.size + 1, 2, none⟩ (.slice none 0 0)) = WF at hq ⊢
            obtain ⟨hqo, hqb⟩ := hq
            have n0 := hqb.cell 0
            have n1 := hqb.cell 1
            have n2 := hqb.cell 2
            simp only [List.getElem?_cons_zero, List.getElem?_cons_succ] at n0 n1 n2
            refine bodyPost_ret (v := .tuple #[.agg #[.slice none 0 0, .int .i64 0, .slice none 0 0], .slice none 0 0, .int .i64 1]) ?_ rfl ?_
            · simp [results, Try.results24, asAddr, Result.andThen, n0, n1, n2, go_sem]
            · exact ofGot_none (HB2.out.trans (hqo.below HB2.out.size (fun i hi => by omega))) HO.out
          | true =>
            go_wp2_with fail
            go_roundw
            case rel => exact ⟨j + 1, by omega, by go_num, Lib.hid (by rw [idsOk_next HY.out, hjo.out, HR3.out]; rfl), trivial⟩
            case measure => simp [intOf]; omega
        · obtain rfl : j = ids.length := by omega
          have HIO : Hid (idsOk d ids = true) := Lib.hid (by have := hjo.out; rwa [List.take_length] at this)
          clear hjo hlt hj
          have m0 := K12.out.cell 0
          have m1 := K12.out.cell 1
          have m2 := K12.out.cell 2
          have m3 := K12.out.cell 3
          have m4 := K12.out.cell 4
          have m5 := K12.out.cell 5
          simp only [List.getElem?_cons_zero, List.getElem?_cons_succ] at m0 m1 m2 m3 m4 m5
          go_wp2_with fail
          clear m0 m1 m2 m3 m4 m5
          have hq1 := (Blk.fresh w2 3 (ints .i64 (ofDims d ids))).alloc (.cells #[.slice (some ⟨w2.heap.size, 0, none⟩) 4 4, .int .i64 d.exp, .slice none 0 0] 47)
          have hq2 := Blk.fresh (w2.alloc (.cells #[.int .i64 ids.length, .int .i64 d.a, .int .i64 d.b, .int .i64 d.c] 3)) 47 [.slice (some ⟨w2.heap.size, 0, none⟩) 4 4, .int .i64 d.exp, .slice none 0 0]
          rw [World.size_alloc] at hq2
          have hb3 := (one_alloc w2 (.cells #[.int .i64 ids.length, .int .i64 d.a, .int .i64 d.b, .int .i64 d.c] 3)).alloc (by rw [World.size_alloc]; omega) (.cells #[.slice (some ⟨w2.heap.size, 0, none⟩) 4 4, .int .i64 d.exp, .slice none 0 0] 47)
          replace hq1 : Blk ((w2.alloc (.cells #[.int .i64 ids.length, .int .i64 d.a, .int .i64 d.b, .int .i64 d.c] 3)).alloc (.cells #[.slice (some ⟨w2.heap.size, 0, none⟩) 4 4, .int .i64 d.exp, .slice none 0 0] 47)) w2.heap.size 3 (ints .i64 (ofDims d ids)) := hq1
          generalize ((w2.alloc (.cells #[.int .i64 ids.length, .int .i64 d.a, .int .i64 d.b, .int .i64 d.c] 3)).alloc (.cells #[.slice (some ⟨w2.heap.size, 0, none⟩) 4 4, .int .i64 d.exp, .slice none 0 0] 47)) = w3 at hq1 hq2 hb3 ⊢
          have HB3 := Lib.hid (HB2.out.trans (hb3.mono s2))
          have s3 := HB3.out.size
          have l3 := hq2.lt
          have K13 := Lib.hid (K12.out.below hb3 l12)
          have K23 := Lib.hid (K22.out.below hb3 l22)
          have KD3 := Lib.hid hq1
          have KT3 := Lib.hid hq2
          have s23 := hb3.size
          clear hq1 hq2 hb3 HB2 K12 K22
          generalize hqq : w2.heap.size = q at *
          clear hqq
          have hdb : ∀ x ∈ ofDims d ids, -9223372036854775808 ≤ x ∧ x ≤ 9223372036854775807 := by
            have h1 := headI_of (mayD_of HR.out).1
            intro x hx
            unfold ofDims at hx
            simp only [List.mem_cons, List.not_mem_nil, or_false] at hx
            rcases hx with rfl | rfl | rfl | rfl <;> omega
          have HMD := Lib.hid (maydims_any (ofDims d ids) (.slice (some ⟨q, 0, none⟩) 4 4) w3 _ (rowDims4 KD3.out (by simp [ofDims])) hdb)
          have t0 := KT3.out.cell 0
          have t1 := KT3.out.cell 1
          have t2 := KT3.out.cell 2
          simp only [List.getElem?_cons_zero, List.getElem?_cons_succ] at t0 t1 t2
          clear hdb
          refine HMD.out.mono ?_
          rintro en w4 ⟨rfl, rfl⟩
          clear HMD t0 t1 t2
          by_cases hp : 0 < sizeI (ofDims d ids)
          case neg =>
            rw [decide_eq_false hp]
            have HO := Lib.hid (show ofOk d ids = false by rw [ofOk_all HR.out hl1 hl2 HIO.out, decide_eq_false hp])
            clear hp
            have hkr := K23.out
            have hmr : w.heap.size + 1 < w3.heap.size := hkr.lt
            have z0 := hkr.cell 0
            have z1 := hkr.cell 1
            have z2 := hkr.cell 2
            have f0 := hkr.free 0
            have f1 := hkr.free 1
            have f2 := hkr.free 2
            simp only [List.getElem?_cons_zero, List.getElem?_cons_succ] at z0 z1 z2
            clear hkr
            go_wp2_with fail
            have hq := three_ok K23.out (.slice none 0 0) (.int .i64 0) (.slice none 0 0)
            clear z0 z1 z2 f0 f1 f2 hmr
            generalize (((w3.setCell ⟨w.heap.size + 1, 0, none⟩ (.slice none 0 0)).setCell ⟨w.heap.size + 1, 1, none⟩ (.int .i64 0)).setCell ⟨w.heap.size + 1, 2, none⟩ (.slice none 0 0)) = WF at hq ⊢
            obtain ⟨hqo, hqb⟩ := hq
            have n0 := hqb.cell 0
            have n1 := hqb.cell 1
            have n2 := hqb.cell 2
            simp only [List.getElem?_cons_zero, List.getElem?_cons_succ] at n0 n1 n2
            refine bodyPost_ret (v := .tuple #[.agg #[.slice none 0 0, .int .i64 0, .slice none 0 0], .slice none 0 0, .int .i64 1]) ?_ rfl ?_
            · simp [results, Try.results24, asAddr, Result.andThen, n0, n1, n2, go_sem]
            · exact ofGot_none (HB3.out.trans (hqo.below HB3.out.size (fun i hi => by omega))) HO.out
          rw [decide_eq_true hp]
          have HO := Lib.hid (show ofOk d ids = true by rw [ofOk_all HR.out hl1 hl2 HIO.out, decide_eq_true hp])
          have hown : w3.ownsRow w.heap.size 3 1 (.slice (some ⟨q, 0, none⟩) 4 4) 4 (ints .i64 (ofDims d ids)) := rowDims KD3.out (by simp [ofDims]) (by omega)
          have HS := Lib.hid (ofS_start (p := q + 1) HB3.out (by omega) KT3.out hown (fun k hk => by have := Option.some.inj hk; dsimp only at this; omega) K13.out (by omega) K23.out (by omega))
          clear hown hp HB3 K13 K23 KD3 KT3
          have HPZ : Hid (w.heap.size + 1 ≠ q + 1) := Lib.hid (by omega)
          obtain ⟨G, hG⟩ : ∃ G, w3.heap.size = G := ⟨_, rfl⟩
          rw [hG] at HS
          clear hG
          have HZG : Hid (w.heap.size + 1 < G) := Lib.hid (HS.out.oth _ (.tail _ (.head _))).2.1
          have HPQ : Hid (q + 1 < G) := Lib.hid HS.out.lo.2.1
          go_wp2_with fail
          go_loopw [10, 60] (fun l i wr => ∃ (j : Nat) (v : Value) (ys : List Int) (Al : Option Addr) (cl' : Nat) (ls : List Int), j ≤ ids.length ∧ i = .int .i64 j ∧ l = .slice Al ls.length cl' ∧ Hid (OfS w wr G (q + 1) (some ⟨q, 0, none⟩) 4 (ofDims d ids) d.exp v ys (.slice Al ls.length cl') ls [(w.heap.size, 33, [.int .i64 d.a, .int .i64 d.b, .int .i64 d.c, .int .i64 d.exp, .int .i64 d.cl, .slice A d.xs.length k]), (w.heap.size + 1, 47, [.slice none 0 0, .int .i64 0, .slice none 0 0])]) ∧ Hid (ys = ofData d (ids.take j) ∧ ls = ofLabels d (ids.take j))) (fun _ i _ => ids.length - (intOf i).toNat)
          case atStart => exact ⟨0, .slice none 0 0, [], none, 0, [], by omega, rfl, rfl, HS, Lib.hid ⟨by simp [ofData], by simp [ofLabels]⟩⟩
          case round =>
            obtain ⟨j, v, ys, Al, cl', ls, hj, rfl, rfl, hs, hz⟩ := hrel
            clear HS
            have HB := Lib.hid hs.out.bel
            have sr := HB.out.size
            have hkd := (hs.out.oth _ (.head _)).1
            have hkz := (hs.out.oth _ (.tail _ (.head _))).1
            have KD := Lib.hid hkd
            have KZ := Lib.hid hkz
            have ld := hkd.lt
            have lz := hkz.lt
            simp only at ld lz KD KZ
            clear hkd hkz
            by_cases hlt : j < ids.length
            · obtain ⟨A9, n9, c9, e9, _, _, _, hat⟩ := HI.out.below (HB.out.mono hB)
              injection e9 with e91 e92 e93
              subst e91 e92 e93
              obtain ⟨gi, oi, rfl, hgi, hxi⟩ := hat.out (by omega)
              have r1 := hxi j (.int .i64 ids[j]) (ints_at _ _ _ hlt)
              have HY : Hid (ids[j]? = some ids[j]) := Lib.hid (List.getElem?_eq_getElem hlt)
              generalize ids[j] = y at r1 HY
              have hin := idsOk_at HIO.out HY.out
              have i1 : (0 : Int) ≤ (j : Int) := by omega
              have i2 : (j : Int) < (ids.length : Int) := by omega
              clear hat hxi
              obtain ⟨y0, yl, yx⟩ := idIn_of hin
              obtain ⟨m, rfl⟩ := Int.eq_ofNat_of_zero_le y0
              simp only [Int.toNat_natCast] at yl yx
              obtain ⟨g, o, c', e, e1, hlk, hok, hg, q0, q1⟩ := (HX.out.below (HB.out.mono hB)).at_ (k := m) yl
              injection e1 with e1 _ e3
              subst e1 e3
              have HE : Hid (d.xs[(m : Int).toNat]? = some e) := Lib.hid (by simpa using hlk)
              obtain ⟨Ad, cd, hdv, _, _⟩ := hok.rd.form
              obtain ⟨dv, data, lab⟩ := e
              simp only at hdv q0 q1
              subst hdv
              rw [length_ints] at q0
              have hok1 := hok.rd
              simp only at hok1
              rw [length_ints] at hok1
              have a1 : g < w.heap.size := by omega
              have i3 : (m : Int) < (d.xs.length : Int) := by omega
              have i4 : (0 : Int) ≤ (m : Int) := by omega
              have hdl := (mayD_lens HR.out).2 _ (List.mem_of_getElem? hlk)
              simp only at hdl
              have hyl : ys.length ≤ 131072 := by
                rw [hz.out.1]
                exact ofData_le HR.out _ (idsOk_take HIO.out j) (by rw [List.length_take]; omega)
              have hll : ls.length ≤ 64 := by
                rw [hz.out.2]
                unfold ofLabels
                rw [List.length_map, List.length_take]
                omega
              have HRD : Hid (Reads wr B (.slice Ad data.length cd) (ints .i8 data)) := Lib.hid hok1
              obtain ⟨Av, cv, hv⟩ := own_form hs.out.own
              subst hv
              have HQ1 : Hid ((Value.slice Av ys.length cv).ownBlock ≠ some w.heap.size) := Lib.hid (fun e => by have := (hs.out.own.lt _ e).1; have := HZG.out; omega)
              have HQ2 : Hid ((Value.slice Al ls.length cl').ownBlock ≠ some w.heap.size) := Lib.hid (fun e => by have := (hs.out.lab.lt _ e).1; have := HZG.out; omega)
              have HQ3 : Hid ((Value.slice Av ys.length cv).ownBlock ≠ some (q + 1)) := Lib.hid (fun e => by have := (hs.out.own.lt _ e).1; have := HPQ.out; omega)
              have hGw : w.heap.size ≤ G := by have := HZG.out; omega
              have hGr : G ≤ wr.heap.size := hs.out.lo.2.2
              have HS1 := hs
              clear hok hlk hok1 hin y0 yl yx KZ hs
              go_upto_region 16 with fail
              clear r1
              refine wp_region_held_drew (S := ((fun w' => Blk w' w.heap.size 33 [.int .i64 d.a, .int .i64 d.b, .int .i64 d.c, .int .i64 d.exp, .int .i64 d.cl, .slice (some ⟨g, o, none⟩) d.xs.length k] ∧ Below w.heap.size wr w'))) (by kernel_rfl) (⟨KD.out.drew, (Below.refl w.heap.size wr).drew⟩) (fun hHeld => ?_)
              refine' wpAnyH_take (i := 0) (v := _) rfl (by kernel_rfl) (by kernel_rfl) (by kernel_rfl) (fun _ _ _ h => h) (Or.inl ⟨by rfl, ?taq1⟩) (by assumption) ?tbq1
              case taq1 =>
                intro wS hSw
                (try dsimp only at hSw)
                (have m5 := hSw.1.cell 5; have n0 := cell_below hSw.2 a1 q0; simp only [List.getElem?_cons_zero, List.getElem?_cons_succ] at m5; clear hSw; go_simp)
                (try (with_reducible rfl))
              (try simp only [List.getElem_toArray, List.getElem_cons_zero, List.getElem_cons_succ, Act.put, List.setIfInBounds_toArray, List.set_cons_zero, List.set_cons_succ])
              refine' wpAnyH_take (i := 2) (v := _) rfl (by kernel_rfl) (by kernel_rfl) (by kernel_rfl) (fun _ _ _ h => h) (Or.inl ⟨by rfl, ?taq2⟩) (by assumption) ?tbq2
              case taq2 =>
                intro wS hSw
                (try dsimp only at hSw)
                (have m5 := hSw.1.cell 5; have n0 := cell_below hSw.2 a1 q0; simp only [List.getElem?_cons_zero, List.getElem?_cons_succ] at m5; clear hSw; go_simp)
                (try (with_reducible rfl))
              (try simp only [List.getElem_toArray, List.getElem_cons_zero, List.getElem_cons_succ, Act.put, List.setIfInBounds_toArray, List.set_cons_zero, List.set_cons_succ])
              refine' wpAnyH_take (i := 3) (v := _) rfl (by kernel_rfl) (by kernel_rfl) (by kernel_rfl) (fun _ _ _ h => h) (Or.inl ⟨by rfl, ?taq3⟩) (by assumption) ?tbq3
              case taq3 =>
                intro wS hSw
                (try dsimp only at hSw)
                (have m5 := hSw.1.cell 5; have n0 := cell_below hSw.2 a1 q0; simp only [List.getElem?_cons_zero, List.getElem?_cons_succ] at m5; clear hSw; go_simp)
                (try (with_reducible rfl))
              (try simp only [List.getElem_toArray, List.getElem_cons_zero, List.getElem_cons_succ, Act.put, List.setIfInBounds_toArray, List.set_cons_zero, List.set_cons_succ])
              refine' wpAnyH_take (i := 4) (v := _) rfl (by kernel_rfl) (by kernel_rfl) (by kernel_rfl) (fun _ _ _ h => h) (Or.inl ⟨by rfl, ?taq4⟩) (by assumption) ?tbq4
              case taq4 =>
                intro wS hSw
                (try dsimp only at hSw)
                (have m5 := hSw.1.cell 5; have n0 := cell_below hSw.2 a1 q0; simp only [List.getElem?_cons_zero, List.getElem?_cons_succ] at m5; clear hSw; go_simp)
                (try (with_reducible rfl))
              (try simp only [List.getElem_toArray, List.getElem_cons_zero, List.getElem_cons_succ, Act.put, List.setIfInBounds_toArray, List.set_cons_zero, List.set_cons_succ])
              refine' wpAnyH_take (i := 5) (v := _) rfl (by kernel_rfl) (by kernel_rfl) (by kernel_rfl) (fun _ _ _ h => h) (Or.inl ⟨by rfl, ?taq5⟩) (by assumption) ?tbq5
              case taq5 =>
                intro wS hSw
                (try dsimp only at hSw)
                (have m5 := hSw.1.cell 5; have n0 := cell_below hSw.2 a1 q0; simp only [List.getElem?_cons_zero, List.getElem?_cons_succ] at m5; clear hSw; go_simp)
                (try (with_reducible rfl))
              (try simp only [List.getElem_toArray, List.getElem_cons_zero, List.getElem_cons_succ, Act.put, List.setIfInBounds_toArray, List.set_cons_zero, List.set_cons_succ])
              refine' wpAnyH_take (i := 6) (v := _) rfl (by kernel_rfl) (by kernel_rfl) (by kernel_rfl) (fun _ _ _ h => h) (Or.inl ⟨by rfl, ?taq6⟩) (by assumption) ?tbq6
              case taq6 =>
                intro wS hSw
                (try dsimp only at hSw)
                (have m5 := hSw.1.cell 5; have n0 := cell_below hSw.2 a1 q0; simp only [List.getElem?_cons_zero, List.getElem?_cons_succ] at m5; clear hSw; go_simp)
                (try (with_reducible rfl))
              (try simp only [List.getElem_toArray, List.getElem_cons_zero, List.getElem_cons_succ, Act.put, List.setIfInBounds_toArray, List.set_cons_zero, List.set_cons_succ])
              refine' wpAnyH_take (i := 7) (v := _) rfl (by kernel_rfl) (by kernel_rfl) (by kernel_rfl) (fun _ _ _ h => h) (Or.inl ⟨by rfl, ?taq7⟩) (by assumption) ?tbq7
              case taq7 =>
                intro wS hSw
                (try dsimp only at hSw)
                (have m5 := hSw.1.cell 5; have n0 := cell_below hSw.2 a1 q0; simp only [List.getElem?_cons_zero, List.getElem?_cons_succ] at m5; clear hSw; go_simp)
                (try (with_reducible rfl))
              (try simp only [List.getElem_toArray, List.getElem_cons_zero, List.getElem_cons_succ, Act.put, List.setIfInBounds_toArray, List.set_cons_zero, List.set_cons_succ])
              refine wpAnyH_ready (rs := [1]) (by kernel_rfl) (by simp) ?_
              refine AllReadyH.cons rfl (fun K9 hK9 => ?_) AllReadyH.nil
              have f2 := HS1.out.blk.drew.free 2
              have m2 := HS1.out.blk.drew.cell 2
              have lp := HS1.out.blk.drew.lt
              simp only [List.getElem?_cons_zero, List.getElem?_cons_succ] at m2
              (try simp only [List.getElem_toArray, List.getElem_cons_zero, List.getElem_cons_succ])
              go_simp
              refine hK9.out _ _ (⟨KD.out.drew, (Below.refl w.heap.size wr).drew⟩) (fun hHeld9 => ?_)
              clear hK9 K9
              (try simp only [List.getElem_toArray, List.getElem_cons_zero, List.getElem_cons_succ, Act.put, List.setIfInBounds_toArray, List.set_cons_zero, List.set_cons_succ])
              clear f2 m2 lp
              refine wpAnyH_ready (rs := [8]) (by kernel_rfl) (by simp) ?_
              refine AllReadyH.cons rfl (fun K9 hK9 => ?_) AllReadyH.nil
              (try simp only [List.getElem_toArray, List.getElem_cons_zero, List.getElem_cons_succ])
              rw [if_pos (by rfl)]
              refine wp_extend elem_i8d wr.drew _ _ (by rfl) G ys.length _ _ (by rfl) HS1.out.own.drew _ _ (ints .i8 data) (by rfl) HRD.out.drew (ints_one _ _) (by rw [length_ints]; unfold maxLen; omega) (by rw [length_ints]; omega) (by rw [heap_drew]; omega) ?_
              intro A5 c5 w5 hown5 hg5 hf5
              rw [ints_append] at hown5
              simp only [length_ints] at hown5 hf5 ⊢
              have kp5 := HS1.out.blk.drew.grown hg5 (by intro he; exact HQ3.out (he.symm))
              have kd5 := KD.out.drew.grown hg5 (by intro he; exact HQ1.out (he.symm))
              have hb5 := ((Below.refl w.heap.size wr).drew).grown hg5 (by rw [heap_drew]; omega) (fun k hk => by have := (HS1.out.own.lt k hk).1; omega)
              have hA : Off (fun _ => False) wr wr.drew := (Off.refl _ wr).drew
              have HF := Lib.hid (HS1.out.data (v' := .slice A5 (ys.length + data.length) c5) (xs' := ys ++ data) hA hg5 hf5 (by rw [List.length_append]; exact hown5))
              have f2 := kp5.free 2
              have m2 := kp5.cell 2
              have lp := kp5.lt
              simp only [List.getElem?_cons_zero, List.getElem?_cons_succ] at m2
              refine hK9.out _ _ (⟨kd5, hb5⟩) (fun hHeld9 => ?_)
              clear hK9 K9
              (try simp only [List.getElem_toArray, List.getElem_cons_zero, List.getElem_cons_succ, Act.put, List.setIfInBounds_toArray, List.set_cons_zero, List.set_cons_succ])
              refine' wpAnyH_take (i := 9) (v := _) rfl (by kernel_rfl) (by kernel_rfl) (by kernel_rfl) (fun _ _ _ h => h) (Or.inl ⟨by rfl, ?taq8⟩) (by assumption) ?tbq8
              case taq8 =>
                intro wS hSw
                (try dsimp only at hSw)
                go_simp
                (try (with_reducible rfl))
              (try simp only [List.getElem_toArray, List.getElem_cons_zero, List.getElem_cons_succ, Act.put, List.setIfInBounds_toArray, List.set_cons_zero, List.set_cons_succ])
              refine wpAnyH_ready (rs := [10]) (by kernel_rfl) (by simp) ?_
              refine AllReadyH.cons rfl (fun K9 hK9 => ?_) AllReadyH.nil
              (try simp only [List.getElem_toArray, List.getElem_cons_zero, List.getElem_cons_succ])
              go_simp
              have hoF : Off (fun i => i = q + 1) w5 (w5.setCell ⟨q + 1, 2, none⟩ (.slice A5 (ys.length + data.length) c5)) := (Off.refl (fun i => i = q + 1) w5).setCell (p := ⟨q + 1, 2, none⟩) (.inl rfl) _
              have hbF := hb5.trans (hoF.below (B := w.heap.size) (by have := hb5.size; omega) (fun i hi => by omega))
              have kdF := kd5.off hoF (by have := HPQ.out; omega)
              have HbF := Lib.hid hbF
              have HkF := Lib.hid kdF
              clear hown5 hg5 hf5 kp5 kd5 hb5 hA f2 m2 lp hoF hbF kdF
              refine hK9.out _ _ (⟨HkF.out, HbF.out⟩) (fun hHeld9 => ?_)
              clear hK9 K9
              (try simp only [List.getElem_toArray, List.getElem_cons_zero, List.getElem_cons_succ, Act.put, List.setIfInBounds_toArray, List.set_cons_zero, List.set_cons_succ])
              refine wpAnyH_done (by kernel_rfl) ?_ _
              generalize w5.setCell ⟨q + 1, 2, none⟩ (.slice A5 (ys.length + data.length) c5) = wb at HF HbF HkF ⊢
              have m5 := HkF.out.cell 5
              have lk := HkF.out.lt
              simp only [List.getElem?_cons_zero, List.getElem?_cons_succ] at m5
              have n1 := cell_below HbF.out a1 q1
              have hGb : G ≤ wb.heap.size := HF.out.lo.2.2
              have hAL : Off (fun _ => False) wb (wb.alloc (.cells #[.int .i64 lab] 3)) := (Off.refl _ wb).alloc _
              have HAL := Lib.hid hAL
              have HLB := Lib.hid (HF.out.lab.alloc (.cells #[.int .i64 lab] 3))
              clear hAL q0 q1 HbF HkF KD
              go_wp2_with (at_builtin; refine wpList_extend elem_int _ rfl (.tmp 74) (.tmp 81) rfl G ls.length _ _ rfl HLB.out _ _ [.int .i64 lab] rfl (Reads.one_ wb _ _) (by simp [Value.oneCell']) (by simp only [List.length_cons, List.length_nil, maxLen]; omega) (by simp only [List.length_cons, List.length_nil]; omega) (by rw [World.size_alloc]; omega) ?_; intro A6 c6 w6 hown6 hg6 hf6; simp only [List.length_cons, List.length_nil, Nat.zero_add] at hown6 hf6 ⊢)
              have e6 : ints .i64 ls ++ [.int .i64 lab] = ints .i64 (ls ++ [lab]) := by rw [← ints_append]; rfl
              rw [e6] at hown6
              have HF2 := Lib.hid (HF.out.labels (lv' := .slice A6 (ls ++ [lab]).length c6) (ls' := ls ++ [lab]) HAL.out hg6 (by rw [List.length_append]; exact hf6) (by rw [List.length_append]; exact hown6))
              clear hown6 hg6 hf6 m5 n1
              go_wp2_with fail
              go_roundw
              case rel => exact ⟨j + 1, .slice A5 (ys.length + data.length) c5, ys ++ data, A6, c6, ls ++ [lab], by omega, by go_num, by rw [List.length_append]; rfl, HF2, Lib.hid ⟨by rw [ofData_next HY.out HE.out, hz.out.1], by rw [ofLabels_next HY.out HE.out, hz.out.2]⟩⟩
              case measure => simp [intOf]; omega
            · obtain rfl : j = ids.length := by omega
              rw [List.take_length] at hz
              clear HI HBD HX
              have HLO := Lib.hid hs.out.lo
              have HLB := Lib.hid hs.out.lab
              have HOW := Lib.hid hs.out.own
              have HDI := Lib.hid (Reads.of_own hs.out.dims.1)
              have KP := Lib.hid hs.out.blk
              obtain ⟨Av, cv, hv⟩ := own_form hs.out.own
              subst hv
              have lp7 := KP.out.lt
              have hpz := HPZ.out
              have p0 := KP.out.cell 0
              have p1 := KP.out.cell 1
              have p2 := KP.out.cell 2
              simp only [List.getElem?_cons_zero, List.getElem?_cons_succ] at p0 p1 p2
              have z0 := KZ.out.cell 0
              have z1 := KZ.out.cell 1
              have z2 := KZ.out.cell 2
              simp only [List.getElem?_cons_zero, List.getElem?_cons_succ] at z0 z1 z2
              have f0 := KZ.out.free 0
              have f1 := KZ.out.free 1
              have f2 := KZ.out.free 2
              clear hs
              go_wp2_with fail
              have hq := three_ok KZ.out (.slice (some ⟨q, 0, none⟩) 4 4) (.int .i64 d.exp) (.slice Av ys.length cv)
              clear z0 z1 z2 f0 f1 f2 p0 p1 p2
              generalize (((wr.setCell ⟨w.heap.size + 1, 0, none⟩ (.slice (some ⟨q, 0, none⟩) 4 4)).setCell ⟨w.heap.size + 1, 1, none⟩ (.int .i64 d.exp)).setCell ⟨w.heap.size + 1, 2, none⟩ (.slice Av ys.length cv)) = WF at hq ⊢
              obtain ⟨hqo, hqb⟩ := hq
              have n0 := hqb.cell 0
              have n1 := hqb.cell 1
              have n2 := hqb.cell 2
              simp only [List.getElem?_cons_zero, List.getElem?_cons_succ] at n0 n1 n2
              refine bodyPost_ret (v := .tuple #[.agg #[.slice (some ⟨q, 0, none⟩) 4 4, .int .i64 d.exp, .slice Av ys.length cv], .slice Al ls.length cl', .int .i64 0]) ?_ rfl ?_
              · simp [results, Try.results24, asAddr, Result.andThen, n0, n1, n2, go_sem]
              · have hs := hqo.size
                refine ofGot_yes (HB.out.trans (hqo.below HB.out.size (fun i hi => by omega))) HO.out hz.out.1 hz.out.2 ?_ ?_ ?_
                · exact (HDI.out.off_small hqo KZ.out (by rw [length_ints]; simp [ofDims])).more (by have := hqo.size; omega)
                · exact Reads.of_own (own_off HOW.out hqo (fun k hk e => by have := (HOW.out.lt k hk).1; have := HZG.out; omega))
                · exact Reads.of_own (own_off HLB.out hqo (fun k hk e => by have := (HLB.out.lt k hk).1; have := HZG.out; omega))
end Go.Proofs.Ytfhlailhcfjjaaa
