/- Contract of pedagogueref24.param. -/
import Derived.Test.YtcjpibdgnjncmaaCodRDecP
import Derived.Test.YtcjpibdgnjncmaaCodBackP
import Derived.Deep.RegionHeld3
import Derived.Deep.DrawnRows
namespace Go.Proofs.Ytcjpibdgnjncmaa
open Go.RowKit
set_option linter.unusedVariables false
set_option linter.unusedSimpArgs false

set_option maxRecDepth 100000 in
set_option maxHeartbeats 6400000 in
theorem rpar_any (w : World) (p : Nat) (A : Option Addr) (c : Nat) (s : RdV) (h : Rd 64 w p A c s.1 s.2) (hi : RdInv s.1 s.2) (hlen : s.1.length ≤ 140737488351232) (t : PD) (ht : decP ⟨0, s⟩ = t) :
    Calls Try.prog 35 #[.pointer (some ⟨p, 0, none⟩)] w (ParQ w p A t) := by
  have hps : RS w ((w.alloc (.cells #[.slice none 0 0, .int .i64 0, .slice none 0 0, .slice none 0 0, .slice none 0 0, .int .i64 0, .slice none 0 0] 43)).alloc (.cells #[.slice none 0 0, .int .i64 0, .slice none 0 0, .slice none 0 0, .slice none 0 0, .int .i64 0, .slice none 0 0] 43)) (w.heap.size + 2) (w.heap.size + 1) p A A c s zcells zeroV := by
    have hb : Below w.heap.size w ((w.alloc (.cells #[.slice none 0 0, .int .i64 0, .slice none 0 0, .slice none 0 0, .slice none 0 0, .int .i64 0, .slice none 0 0] 43)).alloc (.cells #[.slice none 0 0, .int .i64 0, .slice none 0 0, .slice none 0 0, .slice none 0 0, .int .i64 0, .slice none 0 0] 43)) := ((Below.refl _ w).alloc (Nat.le_refl _) _).alloc (by simp) _
    have k2 := Blk.fresh (w.alloc (.cells #[.slice none 0 0, .int .i64 0, .slice none 0 0, .slice none 0 0, .slice none 0 0, .int .i64 0, .slice none 0 0] 43)) 43 [.slice none 0 0, .int .i64 0, .slice none 0 0, .slice none 0 0, .slice none 0 0, .int .i64 0, .slice none 0 0]
    rw [World.size_alloc] at k2
    exact ⟨h.below hb, Lib.hid hi, hlen, (Blk.fresh w 43 [.slice none 0 0, .int .i64 0, .slice none 0 0, .slice none 0 0, .slice none 0 0, .int .i64 0, .slice none 0 0]).alloc _, k2, k2, zeroV_in _ _, Off.of_below hb (fun i hi => .inr hi), ⟨by omega, by omega, by simp⟩, h.blk.lt, SameA.refl A, Lib.hid h.alt⟩
  have HS := Lib.hid hps
  obtain ⟨s1, hs1⟩ : ∃ s1, rds s 1 = s1 := ⟨_, rfl⟩
  obtain ⟨n1, hn1⟩ : ∃ n1, deB (rdt s 1) = n1 := ⟨_, rfl⟩
  have HT := Lib.hid (mu8_any _ p A c s.1 s.2 hi hps.rd (by omega))
  rw [show deB (takeOut s.1 s.2 1) = n1 from hn1, show takeLeft s.1 s.2 1 = s1.1 by rw [← hs1]; rfl, show takeErr s.1 s.2 1 = s1.2 by rw [← hs1]; rfl] at HT
  have l1 : s1.1.length ≤ s.1.length := by rw [← hs1]; exact rds_len _ _
  have b1 : n1 < 256 := by rw [← hn1]; exact deB_u8 _
  have HI1 : Hid (RdInv s1.1 s1.2) := Lib.hid (by rw [← hs1]; exact rds_inv hi)
  have HTT : Hid (t = decP2 (chk ⟨0, s1⟩ (decide (n1 ≤ 4))) n1) := Lib.hid (by rw [← ht]; unfold decP; dsimp only; rw [hs1, hn1])
  clear ht hs1 hn1 h hps hi
  go_enter Try.func35, Try.ntmps35
  go_wp2_with fail
  generalize ((w.alloc (.cells #[.slice none 0 0, .int .i64 0, .slice none 0 0, .slice none 0 0, .slice none 0 0, .int .i64 0, .slice none 0 0] 43)).alloc (.cells #[.slice none 0 0, .int .i64 0, .slice none 0 0, .slice none 0 0, .slice none 0 0, .int .i64 0, .slice none 0 0] 43)) = w1 at HS HT ⊢
  refine HT.out.mono ?_
  clear HT
  rintro en w2 ⟨rfl, A2, c2, hrd, hA, ho⟩
  have HS2 := Lib.hid (HS.out.read (s' := s1) hrd HI1.out hA ho l1)
  clear hrd hA ho HS
  have hke := Lib.hid HS2.out.rd.blk
  have le := hke.out.lt
  have e1 := hke.out.cell 1
  simp only [List.getElem?_cons_zero, List.getElem?_cons_succ] at e1
  clear hke
  by_cases he1 : s1.2 = 0
  · have te1 : (s1.2 != 0) = false := by simp [he1]
    have HE1 := Lib.hid he1
    clear he1
    by_cases hn0 : n1 = 0
    · subst hn0
      have HTT : Hid (t = ⟨⟨0, s1⟩, zeroC⟩) := Lib.hid (by rw [HTT.out, show decide ((0 : Nat) ≤ 4) = true from rfl, chk_good HE1.out]; unfold decP2; rw [if_pos (.inr rfl)])
      have hkl := Lib.hid HS2.out.non
      have hkr := Lib.hid HS2.out.res
      have ll := hkl.out.lt
      have lr := hkr.out.lt
      have f0 := hkr.out.free 0
      have f1 := hkr.out.free 1
      have f2 := hkr.out.free 2
      have f3 := hkr.out.free 3
      have f4 := hkr.out.free 4
      have f5 := hkr.out.free 5
      have f6 := hkr.out.free 6
      unfold zcells at hkl
      unfold zcells at hkr
      have m0 := hkl.out.cell 0
      have m1 := hkl.out.cell 1
      have m2 := hkl.out.cell 2
      have m3 := hkl.out.cell 3
      have m4 := hkl.out.cell 4
      have m5 := hkl.out.cell 5
      have m6 := hkl.out.cell 6
      simp only [List.getElem?_cons_zero, List.getElem?_cons_succ] at m0 m1 m2 m3 m4 m5 m6
      have r0 := hkr.out.cell 0
      have r1 := hkr.out.cell 1
      have r2 := hkr.out.cell 2
      have r3 := hkr.out.cell 3
      have r4 := hkr.out.cell 4
      have r5 := hkr.out.cell 5
      have r6 := hkr.out.cell 6
      simp only [List.getElem?_cons_zero, List.getElem?_cons_succ] at r0 r1 r2 r3 r4 r5 r6
      go_wp2_with fail
      clear f0 f1 f2 f3 f4 f5 f6 m0 m1 m2 m3 m4 m5 m6 r0 r1 r2 r3 r4 r5 r6 hkl hkr
      have hq := HS2.out.fin (.slice none 0 0) (.int .i64 0) (.slice none 0 0) (.slice none 0 0) (.slice none 0 0) (.int .i64 0) (.slice none 0 0)
      unfold seven at hq
      generalize (((((((w2.setCell ⟨w.heap.size, 0, none⟩ (.slice none 0 0)).setCell ⟨w.heap.size, 1, none⟩ (.int .i64 0)).setCell ⟨w.heap.size, 2, none⟩ (.slice none 0 0)).setCell ⟨w.heap.size, 3, none⟩ (.slice none 0 0)).setCell ⟨w.heap.size, 4, none⟩ (.slice none 0 0)).setCell ⟨w.heap.size, 5, none⟩ (.int .i64 0)).setCell ⟨w.heap.size, 6, none⟩ (.slice none 0 0)) = W at hq ⊢
      obtain ⟨hqb, hqr, hqi, hqo⟩ := hq
      have hqb := Lib.hid hqb
      have p0 := hqb.out.cell 0
      have p1 := hqb.out.cell 1
      have p2 := hqb.out.cell 2
      have p3 := hqb.out.cell 3
      have p4 := hqb.out.cell 4
      have p5 := hqb.out.cell 5
      have p6 := hqb.out.cell 6
      simp only [List.getElem?_cons_zero, List.getElem?_cons_succ] at p0 p1 p2 p3 p4 p5 p6
      refine bodyPost_ret (v := .tuple #[.agg #[.slice none 0 0, .int .i64 0, .slice none 0 0, .slice none 0 0, .slice none 0 0, .int .i64 0, .slice none 0 0], .int .i64 0]) ?_ rfl ?_
      · simp [results, Try.results35, asAddr, Result.andThen, p0, p1, p2, p3, p4, p5, p6, go_sem]
      · rw [HTT.out]
        exact ⟨A2, c2, zeroV, s1, rfl, zeroV_in _ _, fun _ => ⟨rfl, rfl⟩, hqr, HS2.out.inv.out, HS2.out.sa, hqo⟩
    · have t2 : ((n1 : Int) == 0) = false := by rw [beq_eq_false_iff_ne]; omega
      by_cases hn4 : n1 ≤ 4
      · have t4 : decide ((4 : Int) < (n1 : Int)) = false := decide_eq_false (by omega)
        obtain ⟨R, hR⟩ : ∃ R, rdRun 2 num2 n1 ([], s1) = R := ⟨_, rfl⟩
        have HTT : Hid (t = decP3 (chk ⟨0, R.2⟩ (decide (0 < sizeI R.1))) R.1) := Lib.hid (by rw [HTT.out, decide_eq_true hn4, chk_good HE1.out]; unfold decP2; rw [if_neg (by simp; omega)]; dsimp only; rw [hR])
        have HIR : Hid (RdInv R.2.1 R.2.2) := Lib.hid (by rw [← hR]; exact rdRun_invQ 2 num2 n1 ([], s1) HI1.out)
        have HR := Lib.hid hR
        have hl1 := HS2.out.len
        have hu2 := HS2.out.hU
        have HS3 := Lib.hid HS2.out.start
        clear hR hn0 HE1
        go_wp2_with fail
        clear t2 t4 te1 e1 le HS2
        have hll : w.heap.size + 1 < w2.heap.size := by omega
        generalize hw3 : (w2.alloc (.cells #[.slice none 0 0, .int .i64 0, .slice none 0 0, .slice none 0 0, .slice none 0 0, .int .i64 0, .slice none 0 0] 43)) = w3 at HS3 ⊢
        clear hw3 hu2
        generalize w2.heap.size = l at HS3 hll ⊢
        unfold zcells at HS3
        go_loopw [26] (fun i wr => ∃ (j : Nat) (Am : Option Addr) (cm : Nat) (A' : Option Addr) (c' : Nat) (rs : List Int × RdV), j ≤ n1 ∧ i = .int .i64 j ∧ Hid (RS w wr (l + 1) l p A A' c' rs.2 [.slice Am j cm, .int .i64 0, .slice none 0 0, .slice none 0 0, .slice none 0 0, .int .i64 0, .slice none 0 0] zeroV ∧ wr.ownsRow (l + 1) 3 1 (.slice Am j cm) j (ints .i64 rs.1) ∧ rs.1.length = j ∧ rdRun 2 num2 (n1 - j) rs = R ∧ rs.2.1.length ≤ s1.1.length ∧ ∀ x ∈ rs.1, 0 ≤ x ∧ x ≤ 65535)) (fun i _ => n1 - (intOf i).toNat)
        case atStart => exact ⟨0, none, 0, A2, c2, ([], s1), by omega, rfl, Lib.hid ⟨HS3.out, World.ownsRow_nil _ _ _ _, rfl, HR.out, Nat.le_refl _, by simp⟩⟩
        case round =>
          obtain ⟨j, Am, cm, A', c', rs, hj, rfl, HX⟩ := hrel
          clear HS3
          by_cases hlt : j < n1
          · obtain ⟨s', hs'⟩ : ∃ s', rds rs.2 2 = s' := ⟨_, rfl⟩
            obtain ⟨n2, hn2⟩ : ∃ n2, deB (rdt rs.2 2) = n2 := ⟨_, rfl⟩
            have hlr := HX.out.2.2.2.2.1
            have l' : s'.1.length ≤ rs.2.1.length := by rw [← hs']; exact rds_len _ _
            have b2 : n2 < 65536 := by rw [← hn2]; exact deB_u16 _
            have HI' : Hid (RdInv s'.1 s'.2) := Lib.hid (by rw [← hs']; exact rds_inv HX.out.1.inv.out)
            have HN : Hid (rdRun 2 num2 (n1 - (j + 1)) (rs.1 ++ [(n2 : Int)], s') = R) := Lib.hid (by rw [← HX.out.2.2.2.1, rdRun_next 2 num2 n1 j hlt, ← hs', ← hn2]; rfl)
            have HRT := Lib.hid hs'
            have HNT := Lib.hid hn2
            have i7 : (0 : Int) ≤ (j : Int) := by omega
            have j7 : (j : Int) < (n1 : Int) := by omega
            clear hs' hn2
            go_upto_region 12 with fail
            have hdr : Below wr.heap.size wr wr.drew := (Below.refl _ _).drew
            have HSd := Lib.hid (HX.out.1.below hdr)
            have HOd : Hid (wr.drew.ownsRow (l + 1) 3 1 (.slice Am j cm) j (ints .i64 rs.1)) := Lib.hid (own_off HX.out.2.1 (Off.of_below hdr (S := fun i => wr.heap.size ≤ i) (fun i hi => .inl hi)) (fun k hk => by have := (HX.out.2.1.lt k hk).2; omega))
            clear hdr
            refine wp_region_held_drew (S := ((fun w' => l < w'.heap.size))) (by kernel_rfl) (HSd.out.loc.lt) (fun hHeld => ?_)
            generalize wr.drew = wd at HSd HOd hHeld ⊢
            have hkl := Lib.hid HSd.out.loc
            have ll := hkl.out.lt
            have m0 := hkl.out.cell 0
            simp only [List.getElem?_cons_zero, List.getElem?_cons_succ] at m0
            have hlen' := HSd.out.len
            have HT := Lib.hid (mu16_any wd p A' c' rs.2.1 rs.2.2 HSd.out.inv.out HSd.out.rd (by omega))
            rw [show deB (takeOut rs.2.1 rs.2.2 2) = n2 from HNT.out, show takeLeft rs.2.1 rs.2.2 2 = s'.1 by rw [← HRT.out]; rfl, show takeErr rs.2.1 rs.2.2 2 = s'.2 by rw [← HRT.out]; rfl] at HT
            refine' wpAnyH_take (i := 0) (v := _) rfl (by kernel_rfl) (by kernel_rfl) (by kernel_rfl) (fun _ _ _ h => h) (Or.inl ⟨by rfl, ?taq1⟩) (by assumption) ?tbq1
            case taq1 =>
              intro wS hSw
              (try dsimp only at hSw)
              go_simp
              (try (with_reducible rfl))
            (try simp only [List.getElem_toArray, List.getElem_cons_zero, List.getElem_cons_succ, Act.put, List.setIfInBounds_toArray, List.set_cons_zero, List.set_cons_succ])
            refine' wpAnyH_take (i := 1) (v := _) rfl (by kernel_rfl) (by kernel_rfl) (by kernel_rfl) (fun _ _ _ h => h) (Or.inl ⟨by rfl, ?taq2⟩) (by assumption) ?tbq2
            case taq2 =>
              intro wS hSw
              (try dsimp only at hSw)
              go_simp
              (try (with_reducible rfl))
            (try simp only [List.getElem_toArray, List.getElem_cons_zero, List.getElem_cons_succ, Act.put, List.setIfInBounds_toArray, List.set_cons_zero, List.set_cons_succ])
            refine' wpAnyH_take (i := 3) (v := _) rfl (by kernel_rfl) (by kernel_rfl) (by kernel_rfl) (fun _ _ _ h => h) (Or.inl ⟨by rfl, ?taq3⟩) (by assumption) ?tbq3
            case taq3 =>
              intro wS hSw
              (try dsimp only at hSw)
              go_simp
              (try (with_reducible rfl))
            (try simp only [List.getElem_toArray, List.getElem_cons_zero, List.getElem_cons_succ, Act.put, List.setIfInBounds_toArray, List.set_cons_zero, List.set_cons_succ])
            refine wpAnyH_ready (rs := [2, 4]) (by kernel_rfl) (by simp) ?_
            refine AllReadyH.cons rfl (fun K9 hK9 => ?_) (AllReadyH.cons rfl (fun K9 hK9 => ?_) AllReadyH.nil)
            ·
              (try simp only [List.getElem_toArray, List.getElem_cons_zero, List.getElem_cons_succ])
              go_simp
              refine hK9.out _ _ ((by first | exact ll | exact l5)) (fun hHeld9 => ?_)
              clear hK9 K9
              (try simp only [List.getElem_toArray, List.getElem_cons_zero, List.getElem_cons_succ, Act.put, List.setIfInBounds_toArray, List.set_cons_zero, List.set_cons_succ])
              refine wpAnyH_ready (rs := [4]) (by kernel_rfl) (by simp) ?_
              refine AllReadyH.cons rfl (fun K9 hK9 => ?_) AllReadyH.nil
              (try simp only [List.getElem_toArray, List.getElem_cons_zero, List.getElem_cons_succ])
              go_simp
              refine HT.out.mono ?_
              rintro en w5 ⟨rfl, A5, c5, hrd, hA, ho⟩
              have HS5 := Lib.hid (HSd.out.read (s' := s') hrd HI'.out hA ho l')
              have HO5 := Lib.hid (own_off HOd.out ho (fun k hk => by have := (HOd.out.lt k hk).1; have := HSd.out.hU; have := HSd.out.lp; show ¬ k = p; omega))
              have hu5 := HS5.out.hU
              have hkl5 := Lib.hid HS5.out.loc
              have l5 := hkl5.out.lt
              have n0 := hkl5.out.cell 0
              simp only [List.getElem?_cons_zero, List.getElem?_cons_succ] at n0
              clear hrd hA ho
              refine hK9.out _ _ (l5) (fun hHeld9 => ?_)
              clear hK9 K9
              (try simp only [List.getElem_toArray, List.getElem_cons_zero, List.getElem_cons_succ, Act.put, List.setIfInBounds_toArray, List.set_cons_zero, List.set_cons_succ])
              refine wpAnyH_ready (rs := [5]) (by kernel_rfl) (by simp) ?_
              refine AllReadyH.cons rfl (fun K9 hK9 => ?_) AllReadyH.nil
              have hkb := (hkl5.out.alloc (.cells #[.int .i64 (n2 : Int)] 3)).cell 0
              have lb : l < (w5.alloc (.cells #[.int .i64 (n2 : Int)] 3)).heap.size := by simp; omega
              simp only [List.getElem?_cons_zero, List.getElem?_cons_succ] at hkb
              (try simp only [List.getElem_toArray, List.getElem_cons_zero, List.getElem_cons_succ])
              go_simp
              refine hK9.out _ _ (lb) (fun hHeld9 => ?_)
              clear hK9 K9
              (try simp only [List.getElem_toArray, List.getElem_cons_zero, List.getElem_cons_succ, Act.put, List.setIfInBounds_toArray, List.set_cons_zero, List.set_cons_succ])
              refine wpAnyH_ready (rs := [6]) (by kernel_rfl) (by simp) ?_
              refine AllReadyH.cons rfl (fun K9 hK9 => ?_) AllReadyH.nil
              (try simp only [List.getElem_toArray, List.getElem_cons_zero, List.getElem_cons_succ])
              rw [if_pos (by rfl)]
              refine wp_extend elem_intk (w5.alloc (.cells #[.int .i64 (n2 : Int)] 3)) _ _ (by rfl) (l + 1) j _ _ (by rfl) (HO5.out.alloc _) _ _ [.int .i64 (n2 : Int)] (by rfl) (Reads.one_ w5 _ _) (by simp [Value.oneCell']) (by simp only [List.length_cons, List.length_nil, maxLen]; omega) (by simp only [List.length_cons, List.length_nil]; omega) (by simp only [World.size_alloc]; omega) ?_
              intro A9 c9 w9 hown9 hg9 hf9
              simp only [List.length_cons, List.length_nil, Nat.zero_add] at hown9 ⊢
              have HS9 := Lib.hid ((HS5.out.below ((Below.refl _ w5).alloc (Nat.le_refl _) (.cells #[.int .i64 (n2 : Int)] 3))).over (S := fun i => (Value.slice Am j cm).ownBlock = some i) ((Off.refl _ _).grown hg9 (fun k hk => .inl hk)) (fun i hi => (HO5.out.lt i hi).1))
              have q9 := HS9.out.loc.cell 0
              have f9 := HS9.out.loc.free 0
              have l9 := HS9.out.loc.lt
              simp only [List.getElem?_cons_zero, List.getElem?_cons_succ] at q9
              refine hK9.out _ _ (l9) (fun hHeld9 => ?_)
              clear hK9 K9
              (try simp only [List.getElem_toArray, List.getElem_cons_zero, List.getElem_cons_succ, Act.put, List.setIfInBounds_toArray, List.set_cons_zero, List.set_cons_succ])
              refine' wpAnyH_take (i := 7) (v := _) rfl (by kernel_rfl) (by kernel_rfl) (by kernel_rfl) (fun _ _ _ h => h) (Or.inl ⟨by rfl, ?taq4⟩) (by assumption) ?tbq4
              case taq4 =>
                intro wS hSw
                (try dsimp only at hSw)
                go_simp
                (try (with_reducible rfl))
              (try simp only [List.getElem_toArray, List.getElem_cons_zero, List.getElem_cons_succ, Act.put, List.setIfInBounds_toArray, List.set_cons_zero, List.set_cons_succ])
              refine' wpAnyH_take (i := 8) (v := _) rfl (by kernel_rfl) (by kernel_rfl) (by kernel_rfl) (fun _ _ _ h => h) (Or.inl ⟨by rfl, ?taq5⟩) (by assumption) ?tbq5
              case taq5 =>
                intro wS hSw
                (try dsimp only at hSw)
                go_simp
                (try (with_reducible rfl))
              (try simp only [List.getElem_toArray, List.getElem_cons_zero, List.getElem_cons_succ, Act.put, List.setIfInBounds_toArray, List.set_cons_zero, List.set_cons_succ])
              have hof : Off (fun i => i = l) w9 (w9.setCell ⟨l, 0, none⟩ (.slice A9 (j + 1) c9)) := (Off.refl (fun i => i = l) w9).setCell (p := ⟨l, 0, none⟩) (.inl rfl) _
              have hk2 := HS9.out.loc.put 0 (.slice A9 (j + 1) c9)
              simp only [List.set_cons_succ, List.set_cons_zero] at hk2
              have hu9 := HS9.out.hU
              have HS10 := Lib.hid (HS9.out.turn hll hof hk2 (HS9.out.ins.off hof (fun g hg _ => by show ¬ g = _; omega) (fun g hg _ => hg)))
              have e9 : ints .i64 rs.1 ++ [.int .i64 (n2 : Int)] = ints .i64 (rs.1 ++ [(n2 : Int)]) := by rw [← ints_append]; rfl
              rw [e9] at hown9
              have HO10 := Lib.hid (own_off hown9 hof (fun k hk => by have := (hown9.lt k hk).1; show ¬ k = _; omega))
              refine wpAnyH_ready (rs := [9]) (by kernel_rfl) (by simp) ?_
              refine AllReadyH.cons rfl (fun K9 hK9 => ?_) AllReadyH.nil
              (try simp only [List.getElem_toArray, List.getElem_cons_zero, List.getElem_cons_succ])
              go_simp
              refine hK9.out _ _ ((by first | exact HS10.out.loc.lt | exact HS10.out.loc.drew.lt)) (fun hHeld9 => ?_)
              clear hK9 K9
              (try simp only [List.getElem_toArray, List.getElem_cons_zero, List.getElem_cons_succ, Act.put, List.setIfInBounds_toArray, List.set_cons_zero, List.set_cons_succ])
              refine wpAnyH_done (by kernel_rfl) ?_ _
              clear hown9 hg9 hf9 e9 q9 f9 l9 hof hk2 hHeld hkb m0 n0 ll l5 lb hu9
              go_wp2
              go_roundw
              case rel => exact ⟨j + 1, A9, c9, A5, c5, (rs.1 ++ [(n2 : Int)], s'), by omega, by go_num, Lib.hid ⟨HS10.out, HO10.out, by rw [List.length_append, HX.out.2.2.1]; rfl, HN.out, Nat.le_trans l' hlr, fun x hx => by
                rcases List.mem_append.1 hx with hx | hx
                · exact HX.out.2.2.2.2.2 x hx
                · rw [List.mem_singleton.1 hx]; omega⟩⟩
              case measure => simp [intOf]; omega
            ·
              (try simp only [List.getElem_toArray, List.getElem_cons_zero, List.getElem_cons_succ])
              go_simp
              refine HT.out.mono ?_
              rintro en w5 ⟨rfl, A5, c5, hrd, hA, ho⟩
              have HS5 := Lib.hid (HSd.out.read (s' := s') hrd HI'.out hA ho l')
              have HO5 := Lib.hid (own_off HOd.out ho (fun k hk => by have := (HOd.out.lt k hk).1; have := HSd.out.hU; have := HSd.out.lp; show ¬ k = p; omega))
              have hu5 := HS5.out.hU
              have hkl5 := Lib.hid HS5.out.loc
              have l5 := hkl5.out.lt
              have n0 := hkl5.out.cell 0
              simp only [List.getElem?_cons_zero, List.getElem?_cons_succ] at n0
              clear hrd hA ho
              refine hK9.out _ _ (l5) (fun hHeld9 => ?_)
              clear hK9 K9
              (try simp only [List.getElem_toArray, List.getElem_cons_zero, List.getElem_cons_succ, Act.put, List.setIfInBounds_toArray, List.set_cons_zero, List.set_cons_succ])
              refine wpAnyH_ready (rs := [2, 5]) (by kernel_rfl) (by simp) ?_
              refine AllReadyH.cons rfl (fun K9 hK9 => ?_) (AllReadyH.cons rfl (fun K9 hK9 => ?_) AllReadyH.nil)
              ·
                (try simp only [List.getElem_toArray, List.getElem_cons_zero, List.getElem_cons_succ])
                go_simp
                refine hK9.out _ _ ((by first | exact ll | exact l5)) (fun hHeld9 => ?_)
                clear hK9 K9
                (try simp only [List.getElem_toArray, List.getElem_cons_zero, List.getElem_cons_succ, Act.put, List.setIfInBounds_toArray, List.set_cons_zero, List.set_cons_succ])
                refine wpAnyH_ready (rs := [5]) (by kernel_rfl) (by simp) ?_
                refine AllReadyH.cons rfl (fun K9 hK9 => ?_) AllReadyH.nil
                have hkb := (hkl5.out.alloc (.cells #[.int .i64 (n2 : Int)] 3)).cell 0
                have lb : l < (w5.alloc (.cells #[.int .i64 (n2 : Int)] 3)).heap.size := by simp; omega
                simp only [List.getElem?_cons_zero, List.getElem?_cons_succ] at hkb
                (try simp only [List.getElem_toArray, List.getElem_cons_zero, List.getElem_cons_succ])
                go_simp
                refine hK9.out _ _ (lb) (fun hHeld9 => ?_)
                clear hK9 K9
                (try simp only [List.getElem_toArray, List.getElem_cons_zero, List.getElem_cons_succ, Act.put, List.setIfInBounds_toArray, List.set_cons_zero, List.set_cons_succ])
                refine wpAnyH_ready (rs := [6]) (by kernel_rfl) (by simp) ?_
                refine AllReadyH.cons rfl (fun K9 hK9 => ?_) AllReadyH.nil
                (try simp only [List.getElem_toArray, List.getElem_cons_zero, List.getElem_cons_succ])
                rw [if_pos (by rfl)]
                refine wp_extend elem_intk (w5.alloc (.cells #[.int .i64 (n2 : Int)] 3)) _ _ (by rfl) (l + 1) j _ _ (by rfl) (HO5.out.alloc _) _ _ [.int .i64 (n2 : Int)] (by rfl) (Reads.one_ w5 _ _) (by simp [Value.oneCell']) (by simp only [List.length_cons, List.length_nil, maxLen]; omega) (by simp only [List.length_cons, List.length_nil]; omega) (by simp only [World.size_alloc]; omega) ?_
                intro A9 c9 w9 hown9 hg9 hf9
                simp only [List.length_cons, List.length_nil, Nat.zero_add] at hown9 ⊢
                have HS9 := Lib.hid ((HS5.out.below ((Below.refl _ w5).alloc (Nat.le_refl _) (.cells #[.int .i64 (n2 : Int)] 3))).over (S := fun i => (Value.slice Am j cm).ownBlock = some i) ((Off.refl _ _).grown hg9 (fun k hk => .inl hk)) (fun i hi => (HO5.out.lt i hi).1))
                have q9 := HS9.out.loc.cell 0
                have f9 := HS9.out.loc.free 0
                have l9 := HS9.out.loc.lt
                simp only [List.getElem?_cons_zero, List.getElem?_cons_succ] at q9
                refine hK9.out _ _ (l9) (fun hHeld9 => ?_)
                clear hK9 K9
                (try simp only [List.getElem_toArray, List.getElem_cons_zero, List.getElem_cons_succ, Act.put, List.setIfInBounds_toArray, List.set_cons_zero, List.set_cons_succ])
                refine' wpAnyH_take (i := 7) (v := _) rfl (by kernel_rfl) (by kernel_rfl) (by kernel_rfl) (fun _ _ _ h => h) (Or.inl ⟨by rfl, ?taq6⟩) (by assumption) ?tbq6
                case taq6 =>
                  intro wS hSw
                  (try dsimp only at hSw)
                  go_simp
                  (try (with_reducible rfl))
                (try simp only [List.getElem_toArray, List.getElem_cons_zero, List.getElem_cons_succ, Act.put, List.setIfInBounds_toArray, List.set_cons_zero, List.set_cons_succ])
                refine' wpAnyH_take (i := 8) (v := _) rfl (by kernel_rfl) (by kernel_rfl) (by kernel_rfl) (fun _ _ _ h => h) (Or.inl ⟨by rfl, ?taq7⟩) (by assumption) ?tbq7
                case taq7 =>
                  intro wS hSw
                  (try dsimp only at hSw)
                  go_simp
                  (try (with_reducible rfl))
                (try simp only [List.getElem_toArray, List.getElem_cons_zero, List.getElem_cons_succ, Act.put, List.setIfInBounds_toArray, List.set_cons_zero, List.set_cons_succ])
                have hof : Off (fun i => i = l) w9 (w9.setCell ⟨l, 0, none⟩ (.slice A9 (j + 1) c9)) := (Off.refl (fun i => i = l) w9).setCell (p := ⟨l, 0, none⟩) (.inl rfl) _
                have hk2 := HS9.out.loc.put 0 (.slice A9 (j + 1) c9)
                simp only [List.set_cons_succ, List.set_cons_zero] at hk2
                have hu9 := HS9.out.hU
                have HS10 := Lib.hid (HS9.out.turn hll hof hk2 (HS9.out.ins.off hof (fun g hg _ => by show ¬ g = _; omega) (fun g hg _ => hg)))
                have e9 : ints .i64 rs.1 ++ [.int .i64 (n2 : Int)] = ints .i64 (rs.1 ++ [(n2 : Int)]) := by rw [← ints_append]; rfl
                rw [e9] at hown9
                have HO10 := Lib.hid (own_off hown9 hof (fun k hk => by have := (hown9.lt k hk).1; show ¬ k = _; omega))
                refine wpAnyH_ready (rs := [9]) (by kernel_rfl) (by simp) ?_
                refine AllReadyH.cons rfl (fun K9 hK9 => ?_) AllReadyH.nil
                (try simp only [List.getElem_toArray, List.getElem_cons_zero, List.getElem_cons_succ])
                go_simp
                refine hK9.out _ _ ((by first | exact HS10.out.loc.lt | exact HS10.out.loc.drew.lt)) (fun hHeld9 => ?_)
                clear hK9 K9
                (try simp only [List.getElem_toArray, List.getElem_cons_zero, List.getElem_cons_succ, Act.put, List.setIfInBounds_toArray, List.set_cons_zero, List.set_cons_succ])
                refine wpAnyH_done (by kernel_rfl) ?_ _
                clear hown9 hg9 hf9 e9 q9 f9 l9 hof hk2 hHeld hkb m0 n0 ll l5 lb hu9
                go_wp2
                go_roundw
                case rel => exact ⟨j + 1, A9, c9, A5, c5, (rs.1 ++ [(n2 : Int)], s'), by omega, by go_num, Lib.hid ⟨HS10.out, HO10.out, by rw [List.length_append, HX.out.2.2.1]; rfl, HN.out, Nat.le_trans l' hlr, fun x hx => by
                  rcases List.mem_append.1 hx with hx | hx
                  · exact HX.out.2.2.2.2.2 x hx
                  · rw [List.mem_singleton.1 hx]; omega⟩⟩
                case measure => simp [intOf]; omega
              ·
                have hkb := (hkl5.out.alloc (.cells #[.int .i64 (n2 : Int)] 3)).cell 0
                have lb : l < (w5.alloc (.cells #[.int .i64 (n2 : Int)] 3)).heap.size := by simp; omega
                simp only [List.getElem?_cons_zero, List.getElem?_cons_succ] at hkb
                (try simp only [List.getElem_toArray, List.getElem_cons_zero, List.getElem_cons_succ])
                go_simp
                refine hK9.out _ _ (lb) (fun hHeld9 => ?_)
                clear hK9 K9
                (try simp only [List.getElem_toArray, List.getElem_cons_zero, List.getElem_cons_succ, Act.put, List.setIfInBounds_toArray, List.set_cons_zero, List.set_cons_succ])
                refine wpAnyH_ready (rs := [2]) (by kernel_rfl) (by simp) ?_
                refine AllReadyH.cons rfl (fun K9 hK9 => ?_) AllReadyH.nil
                (try simp only [List.getElem_toArray, List.getElem_cons_zero, List.getElem_cons_succ])
                go_simp
                refine hK9.out _ _ (lb) (fun hHeld9 => ?_)
                clear hK9 K9
                (try simp only [List.getElem_toArray, List.getElem_cons_zero, List.getElem_cons_succ, Act.put, List.setIfInBounds_toArray, List.set_cons_zero, List.set_cons_succ])
                refine wpAnyH_ready (rs := [6]) (by kernel_rfl) (by simp) ?_
                refine AllReadyH.cons rfl (fun K9 hK9 => ?_) AllReadyH.nil
                (try simp only [List.getElem_toArray, List.getElem_cons_zero, List.getElem_cons_succ])
                rw [if_pos (by rfl)]
                refine wp_extend elem_intk (w5.alloc (.cells #[.int .i64 (n2 : Int)] 3)) _ _ (by rfl) (l + 1) j _ _ (by rfl) (HO5.out.alloc _) _ _ [.int .i64 (n2 : Int)] (by rfl) (Reads.one_ w5 _ _) (by simp [Value.oneCell']) (by simp only [List.length_cons, List.length_nil, maxLen]; omega) (by simp only [List.length_cons, List.length_nil]; omega) (by simp only [World.size_alloc]; omega) ?_
                intro A9 c9 w9 hown9 hg9 hf9
                simp only [List.length_cons, List.length_nil, Nat.zero_add] at hown9 ⊢
                have HS9 := Lib.hid ((HS5.out.below ((Below.refl _ w5).alloc (Nat.le_refl _) (.cells #[.int .i64 (n2 : Int)] 3))).over (S := fun i => (Value.slice Am j cm).ownBlock = some i) ((Off.refl _ _).grown hg9 (fun k hk => .inl hk)) (fun i hi => (HO5.out.lt i hi).1))
                have q9 := HS9.out.loc.cell 0
                have f9 := HS9.out.loc.free 0
                have l9 := HS9.out.loc.lt
                simp only [List.getElem?_cons_zero, List.getElem?_cons_succ] at q9
                refine hK9.out _ _ (l9) (fun hHeld9 => ?_)
                clear hK9 K9
                (try simp only [List.getElem_toArray, List.getElem_cons_zero, List.getElem_cons_succ, Act.put, List.setIfInBounds_toArray, List.set_cons_zero, List.set_cons_succ])
                refine' wpAnyH_take (i := 7) (v := _) rfl (by kernel_rfl) (by kernel_rfl) (by kernel_rfl) (fun _ _ _ h => h) (Or.inl ⟨by rfl, ?taq8⟩) (by assumption) ?tbq8
                case taq8 =>
                  intro wS hSw
                  (try dsimp only at hSw)
                  go_simp
                  (try (with_reducible rfl))
                (try simp only [List.getElem_toArray, List.getElem_cons_zero, List.getElem_cons_succ, Act.put, List.setIfInBounds_toArray, List.set_cons_zero, List.set_cons_succ])
                refine' wpAnyH_take (i := 8) (v := _) rfl (by kernel_rfl) (by kernel_rfl) (by kernel_rfl) (fun _ _ _ h => h) (Or.inl ⟨by rfl, ?taq9⟩) (by assumption) ?tbq9
                case taq9 =>
                  intro wS hSw
                  (try dsimp only at hSw)
                  go_simp
                  (try (with_reducible rfl))
                (try simp only [List.getElem_toArray, List.getElem_cons_zero, List.getElem_cons_succ, Act.put, List.setIfInBounds_toArray, List.set_cons_zero, List.set_cons_succ])
                have hof : Off (fun i => i = l) w9 (w9.setCell ⟨l, 0, none⟩ (.slice A9 (j + 1) c9)) := (Off.refl (fun i => i = l) w9).setCell (p := ⟨l, 0, none⟩) (.inl rfl) _
                have hk2 := HS9.out.loc.put 0 (.slice A9 (j + 1) c9)
                simp only [List.set_cons_succ, List.set_cons_zero] at hk2
                have hu9 := HS9.out.hU
                have HS10 := Lib.hid (HS9.out.turn hll hof hk2 (HS9.out.ins.off hof (fun g hg _ => by show ¬ g = _; omega) (fun g hg _ => hg)))
                have e9 : ints .i64 rs.1 ++ [.int .i64 (n2 : Int)] = ints .i64 (rs.1 ++ [(n2 : Int)]) := by rw [← ints_append]; rfl
                rw [e9] at hown9
                have HO10 := Lib.hid (own_off hown9 hof (fun k hk => by have := (hown9.lt k hk).1; show ¬ k = _; omega))
                refine wpAnyH_ready (rs := [9]) (by kernel_rfl) (by simp) ?_
                refine AllReadyH.cons rfl (fun K9 hK9 => ?_) AllReadyH.nil
                (try simp only [List.getElem_toArray, List.getElem_cons_zero, List.getElem_cons_succ])
                go_simp
                refine hK9.out _ _ ((by first | exact HS10.out.loc.lt | exact HS10.out.loc.drew.lt)) (fun hHeld9 => ?_)
                clear hK9 K9
                (try simp only [List.getElem_toArray, List.getElem_cons_zero, List.getElem_cons_succ, Act.put, List.setIfInBounds_toArray, List.set_cons_zero, List.set_cons_succ])
                refine wpAnyH_done (by kernel_rfl) ?_ _
                clear hown9 hg9 hf9 e9 q9 f9 l9 hof hk2 hHeld hkb m0 n0 ll l5 lb hu9
                go_wp2
                go_roundw
                case rel => exact ⟨j + 1, A9, c9, A5, c5, (rs.1 ++ [(n2 : Int)], s'), by omega, by go_num, Lib.hid ⟨HS10.out, HO10.out, by rw [List.length_append, HX.out.2.2.1]; rfl, HN.out, Nat.le_trans l' hlr, fun x hx => by
                  rcases List.mem_append.1 hx with hx | hx
                  · exact HX.out.2.2.2.2.2 x hx
                  · rw [List.mem_singleton.1 hx]; omega⟩⟩
                case measure => simp [intOf]; omega
          · obtain rfl : j = n1 := by omega
            have hrr : rs = R := by have h1 := HX.out.2.2.2.1; rw [Nat.sub_self] at h1; exact h1
            subst hrr
            obtain ⟨dl, r2⟩ := rs
            have hdl := HX.out.2.2.1
            dsimp only at hdl HX HTT HIR
            have HDL := Lib.hid hdl
            have HPS := Lib.hid HX.out.1
            have HOD := Lib.hid HX.out.2.1
            have HDB : Hid (∀ x ∈ dl, -9223372036854775808 ≤ x ∧ x ≤ 9223372036854775807) := Lib.hid (fun x hx => by have := HX.out.2.2.2.2.2 x hx; omega)
            have hl2 := HX.out.2.2.2.2.1
            have hu2 := HPS.out.hU
            have hpm := HPS.out.more (U' := wr.heap.size) hu2.2.2 (Nat.le_refl _)
            have hin : ParV.In (fun g => l < g ∧ g < wr.heap.size) wr (⟨.slice Am j cm, .slice none 0 0, .slice none 0 0, .slice none 0 0, .slice none 0 0, ⟨dl, 0, [], [], [], 0, []⟩⟩ : ParV) := ⟨RowS.of_own HOD.out (fun k hk => by have := HOD.out.lt k hk; omega), RowS.nil_ _ _, RowS.nil_ _ _, RowS.nil_ _ _, RowS.nil_ _ _, ⟨HDB, Lib.hid (by simp), by simp, by simp, Lib.hid (by simp), Lib.hid (by simp), Lib.hid (by simp), by simp, by simp, by unfold lenP; have := HDL.out; simp only [List.length_nil]; omega⟩⟩
            have HP1 := Lib.hid (hpm.turn hll (Off.refl _ _) hpm.loc hin)
            clear hlt HX hdl HR hpm hin HPS HOD hu2
            have hke := Lib.hid HP1.out.rd.blk
            have le := hke.out.lt
            have e1 := hke.out.cell 1
            simp only [List.getElem?_cons_zero, List.getElem?_cons_succ] at e1
            clear hke
            by_cases he2 : r2.2 = 0
            · have te2 : (r2.2 != 0) = false := by simp [he2]
              have HE2 := Lib.hid he2
              clear he2
              have hkl := Lib.hid HP1.out.loc
              have ll := hkl.out.lt
              have m0 := hkl.out.cell 0
              simp only [List.getElem?_cons_zero, List.getElem?_cons_succ] at m0
              go_wp2_with fail
              refine (maydims_any dl _ wr _ HP1.out.ins.wd.reads HDB.out).mono ?_
              rintro en w' ⟨rfl, rfl⟩
              clear m0  ll
              clear te2 e1 le hkl
              by_cases hsz : 0 < sizeI dl
              · have tsz : decide (0 < sizeI dl) = true := decide_eq_true hsz
                have HTT : Hid (t = decP4 dl (decT ⟨0, r2⟩ dl)) := Lib.hid (by rw [HTT.out, tsz, chk_good HE2.out]; unfold decP3; rw [if_neg (by simp)])
                rw [tsz]
                have HSZ := Lib.hid hsz
                clear tsz hsz
                obtain ⟨s3, hs'⟩ : ∃ s', rds r2 1 = s' := ⟨_, rfl⟩
                obtain ⟨n3, hn'⟩ : ∃ n', deB (rdt r2 1) = n' := ⟨_, rfl⟩
                have l_s3 : s3.1.length ≤ r2.1.length := by rw [← hs']; exact rds_len _ _
                have b_n3 : n3 < 256 := by rw [← hn']; exact deB_u8 _
                have HI_s3 : Hid (RdInv s3.1 s3.2) := Lib.hid (by rw [← hs']; exact rds_inv HP1.out.inv.out)
                have hle' := HP1.out.len
                have HT := Lib.hid (mu8_any wr p A' c' r2.1 r2.2 HP1.out.inv.out HP1.out.rd (by omega))
                rw [show deB (takeOut r2.1 r2.2 1) = n3 from hn', show takeLeft r2.1 r2.2 1 = s3.1 by rw [← hs']; rfl, show takeErr r2.1 r2.2 1 = s3.2 by rw [← hs']; rfl] at HT
                obtain ⟨ex, hex⟩ : ∃ ex, IntKind.i8.wrap (n3 : Int) = ex := ⟨_, rfl⟩
                have hex2 : wrap64 ex = ex := by rw [← hex]; exact wrap64_i8 _
                have hexb := i8_in (n3 : Int)
                rw [hex] at hexb
                obtain ⟨out, hout⟩ : ∃ o, rdt s3 (sizeI dl) = o := ⟨_, rfl⟩
                obtain ⟨s4, hs4⟩ : ∃ o, rds s3 (sizeI dl) = o := ⟨_, rfl⟩
                obtain ⟨xs, hxs⟩ : ∃ o, i8s out = o := ⟨_, rfl⟩
                have HTT : Hid (t = decP4 dl ⟨chk ⟨0, s4⟩ (mayB dl ex xs), ex, xs⟩) := Lib.hid (by rw [HTT.out]; unfold decT; dsimp only; rw [hs', hn', hout, hs4, hxs, hex])
                have HOUT := Lib.hid hout
                have HS4 := Lib.hid hs4
                have HXS := Lib.hid hxs
                have hol : out.length ≤ 8192 := by
                  have h1 := sizeI_bound dl
                  have h2 := takeOut_len s3.1 s3.2 (sizeI dl).toNat
                  rw [show (((sizeI dl).toNat : Nat) : Int) = sizeI dl by have := HSZ.out; omega] at h2
                  have h3 : out.length ≤ (sizeI dl).toNat := by rw [← hout]; exact h2
                  omega
                have hxl : xs.length = out.length := by rw [← hxs]; unfold i8s; rw [List.length_map]
                have HXB : Hid (∀ x ∈ xs, -128 ≤ x ∧ x ≤ 127) := Lib.hid (by rw [← hxs]; exact i8s_in _)
                have HXL := Lib.hid hxl
                clear hout hs4 hxs hxl
                have HEX := Lib.hid hex
                clear hex
                clear hs' hn' hle'
                go_wp2_with fail
                refine HT.out.mono ?_
                rintro en w5 ⟨rfl, A5, c5, hrd, hA, ho⟩
                have HP2 := Lib.hid (HP1.out.read (s' := s3) hrd HI_s3.out hA ho l_s3)
                clear hrd hA ho HT HP1
                have hkl := Lib.hid HP2.out.loc
                have ll := hkl.out.lt
                have m0 := hkl.out.cell 0
                have m1 := hkl.out.cell 1
                simp only [List.getElem?_cons_zero, List.getElem?_cons_succ] at m0 m1
                have f1 := hkl.out.free 1
                rw [← HEX.out] at hex2
                go_upto_region 19 with fail
                (try rw [HEX.out] at *)
                clear m0 m1 f1 ll
                clear hkl
                have hk2 := HP2.out.loc.put 1 (.int .i64 ex)
                have hof : Off (fun i => i = l) w5 (w5.setCell ⟨l, 1, none⟩ (.int .i64 ex)) := (Off.refl (fun i => i = l) w5).setCell (p := ⟨l, 1, none⟩) (.inl rfl) _
                simp only [List.set_cons_succ, List.set_cons_zero] at hk2
                have hin := HP2.out.ins.off hof (fun g hg _ => by show ¬ g = _; omega) (fun g hg _ => hg)
                have HP3 := Lib.hid (HP2.out.turn hll hof hk2 hin)

                clear hk2 hof hin HP2
                generalize (w5.setCell ⟨l, 1, none⟩ (.int .i64 ex)) = w6 at *
                have hkl := Lib.hid HP3.out.loc
                have ll := hkl.out.lt
                have m0 := hkl.out.cell 0
                simp only [List.getElem?_cons_zero, List.getElem?_cons_succ] at m0
                go_wp2_with fail
                refine (r1size_any dl _ w6 _ HP3.out.ins.wd.reads HDB.out).mono ?_
                rintro en w' ⟨rfl, rfl⟩
                have l_s4 : s4.1.length ≤ s3.1.length := by rw [← HS4.out]; exact rds_len _ _
                have HI_s4 : Hid (RdInv s4.1 s4.2) := Lib.hid (by rw [← HS4.out]; exact rds_inv HP3.out.inv.out)
                have hle' := HP3.out.len
                have HT := Lib.hid (rtake_any w6 p A5 c5 s3.1 s3.2 (sizeI dl) HP3.out.inv.out HP3.out.rd (by omega))
                rw [show takeOut s3.1 s3.2 (sizeI dl) = out from HOUT.out, show takeLeft s3.1 s3.2 (sizeI dl) = s4.1 by rw [← HS4.out]; rfl, show takeErr s3.1 s3.2 (sizeI dl) = s4.2 by rw [← HS4.out]; rfl] at HT
                clear hle'
                go_wp2_with fail
                clear m0 ll hkl
                refine HT.out.mono ?_
                rintro en w7 ⟨Ao, co, A7, c7, rfl, howo, hrd, hA, ho⟩
                have HP4 := Lib.hid (HP3.out.read (s' := s4) hrd HI_s4.out hA ho l_s4)
                have HRO := Lib.hid (Reads.of_own howo)
                have hu4 := HP4.out.hU
                clear howo hrd hA ho HT HP3
                go_wp2_with fail
                refine (rsmalls_any out _ w7 _ (Nat.le_refl _) HRO.out (by omega)).mono ?_
                rintro en w8 ⟨Ax, cx, rfl, howx, hb⟩
                rw [HXS.out] at howx ⊢
                have hb8 := hb.size
                have HP5 := Lib.hid ((HP4.out.below hb).more (U' := w8.heap.size) (by omega) (Nat.le_refl _))
                have HOX := Lib.hid howx
                clear howx hb HP4 HRO
                have hkl := Lib.hid HP5.out.loc
                have ll := hkl.out.lt
                have m0 := hkl.out.cell 0
                have m2 := hkl.out.cell 2
                simp only [List.getElem?_cons_zero, List.getElem?_cons_succ] at m0 m2
                have f2 := hkl.out.free 2
                go_upto_region 20 with fail
                clear m0 m2 f2 ll
                clear hkl
                have hk2 := HP5.out.loc.put 2 (.slice Ax xs.length cx)
                have hof : Off (fun i => i = l) w8 (w8.setCell ⟨l, 2, none⟩ (.slice Ax xs.length cx)) := (Off.refl (fun i => i = l) w8).setCell (p := ⟨l, 2, none⟩) (.inl rfl) _
                simp only [List.set_cons_succ, List.set_cons_zero] at hk2
                have hin0 := HP5.out.ins.off hof (fun g hg _ => by show ¬ g = _; omega) (fun g hg _ => hg)
                have x7 := own_off HOX.out hof (fun k hk => by have := (HOX.out.lt k hk).1; show ¬ k = l; omega)
                have hz7 : (w8.setCell ⟨l, 2, none⟩ (.slice Ax xs.length cx)).heap.size = w8.heap.size := by simp
                have hin : ParV.In (fun g => l < g ∧ g < w8.heap.size) (w8.setCell ⟨l, 2, none⟩ (.slice Ax xs.length cx)) (⟨.slice Am j cm, .slice Ax xs.length cx, .slice none 0 0, .slice none 0 0, .slice none 0 0, ⟨dl, ex, xs, [], [], 0, []⟩⟩ : ParV) := ⟨hin0.wd, RowS.of_own x7 (fun k hk => by have := x7.lt k hk; omega), RowS.nil_ _ _, RowS.nil_ _ _, RowS.nil_ _ _, ⟨HDB, HXB, by dsimp only; omega, by dsimp only; omega, Lib.hid (by simp), Lib.hid (by simp), Lib.hid (by simp), by simp, by simp, by unfold lenP; have := HDL.out; have := HXL.out; simp only [List.length_nil]; omega⟩⟩
                have HP6 := Lib.hid (HP5.out.turn hll hof hk2 hin)
                clear hin0 x7
                clear hk2 hof hin HP5
                generalize (w8.setCell ⟨l, 2, none⟩ (.slice Ax xs.length cx)) = w9 at *
                clear hu4 HOX
                have hke := Lib.hid HP6.out.rd.blk
                have le := hke.out.lt
                have e1 := hke.out.cell 1
                simp only [List.getElem?_cons_zero, List.getElem?_cons_succ] at e1
                clear hke
                by_cases he4 : s4.2 = 0
                · have te4 : (s4.2 != 0) = false := by simp [he4]
                  have HE4 := Lib.hid he4
                  clear he4
                  have hkl := Lib.hid HP6.out.loc
                  have ll := hkl.out.lt
                  have m0 := hkl.out.cell 0
                  have m1 := hkl.out.cell 1
                  have m2 := hkl.out.cell 2
                  simp only [List.getElem?_cons_zero, List.getElem?_cons_succ] at m0 m1 m2
                  have HIS := Lib.hid HP6.out.ins.ok.t
                  dsimp only at HIS
                  go_wp2_with fail
                  refine (mayt_any dl ex xs _ _ w9 w9.heap.size (Nat.le_refl _) HIS.out).mono ?_
                  rintro en w10 ⟨rfl, hb⟩
                  have hb10 := hb.size
                  have HP7 := Lib.hid (HP6.out.below hb)
                  have hu6 := HP6.out.hU
                  clear hb HIS HP6 te4 e1 le hkl
                  clear m0 m1 m2  ll
                  obtain ⟨okw, hokw⟩ : ∃ okw, mayB dl ex xs = okw := ⟨_, rfl⟩
                  rw [hokw] at HTT ⊢
                  clear hokw
                  cases okw with
                  | false =>
                    have HTT : Hid (t = ⟨⟨5, s4⟩, zeroC⟩) := Lib.hid (by rw [HTT.out, chk_bad HE4.out]; unfold decP4; rw [if_pos (by simp)])
                    have hkl := Lib.hid HP7.out.non
                    have hkr := Lib.hid HP7.out.res
                    have ll := hkl.out.lt
                    have lr := hkr.out.lt
                    have f0 := hkr.out.free 0
                    have f1 := hkr.out.free 1
                    have f2 := hkr.out.free 2
                    have f3 := hkr.out.free 3
                    have f4 := hkr.out.free 4
                    have f5 := hkr.out.free 5
                    have f6 := hkr.out.free 6
                    unfold zcells at hkl
                    unfold zcells at hkr
                    have m0 := hkl.out.cell 0
                    have m1 := hkl.out.cell 1
                    have m2 := hkl.out.cell 2
                    have m3 := hkl.out.cell 3
                    have m4 := hkl.out.cell 4
                    have m5 := hkl.out.cell 5
                    have m6 := hkl.out.cell 6
                    simp only [List.getElem?_cons_zero, List.getElem?_cons_succ] at m0 m1 m2 m3 m4 m5 m6
                    have r0 := hkr.out.cell 0
                    have r1 := hkr.out.cell 1
                    have r2 := hkr.out.cell 2
                    have r3 := hkr.out.cell 3
                    have r4 := hkr.out.cell 4
                    have r5 := hkr.out.cell 5
                    have r6 := hkr.out.cell 6
                    simp only [List.getElem?_cons_zero, List.getElem?_cons_succ] at r0 r1 r2 r3 r4 r5 r6
                    go_wp2_with fail
                    clear f0 f1 f2 f3 f4 f5 f6 m0 m1 m2 m3 m4 m5 m6 r0 r1 r2 r3 r4 r5 r6 hkl hkr
                    have hq := HP7.out.fin (.slice none 0 0) (.int .i64 0) (.slice none 0 0) (.slice none 0 0) (.slice none 0 0) (.int .i64 0) (.slice none 0 0)
                    unfold seven at hq
                    generalize (((((((w10.setCell ⟨w.heap.size, 0, none⟩ (.slice none 0 0)).setCell ⟨w.heap.size, 1, none⟩ (.int .i64 0)).setCell ⟨w.heap.size, 2, none⟩ (.slice none 0 0)).setCell ⟨w.heap.size, 3, none⟩ (.slice none 0 0)).setCell ⟨w.heap.size, 4, none⟩ (.slice none 0 0)).setCell ⟨w.heap.size, 5, none⟩ (.int .i64 0)).setCell ⟨w.heap.size, 6, none⟩ (.slice none 0 0)) = W at hq ⊢
                    obtain ⟨hqb, hqr, hqi, hqo⟩ := hq
                    have hqb := Lib.hid hqb
                    have p0 := hqb.out.cell 0
                    have p1 := hqb.out.cell 1
                    have p2 := hqb.out.cell 2
                    have p3 := hqb.out.cell 3
                    have p4 := hqb.out.cell 4
                    have p5 := hqb.out.cell 5
                    have p6 := hqb.out.cell 6
                    simp only [List.getElem?_cons_zero, List.getElem?_cons_succ] at p0 p1 p2 p3 p4 p5 p6
                    refine bodyPost_ret (v := .tuple #[.agg #[.slice none 0 0, .int .i64 0, .slice none 0 0, .slice none 0 0, .slice none 0 0, .int .i64 0, .slice none 0 0], .int .i64 5]) ?_ rfl ?_
                    · simp [results, Try.results35, asAddr, Result.andThen, p0, p1, p2, p3, p4, p5, p6, go_sem]
                    · rw [HTT.out]
                      exact ⟨A7, c7, zeroV, s4, rfl, zeroV_in _ _, fun h => absurd h (by simp), hqr, HP7.out.inv.out, HP7.out.sa, hqo⟩
                  | true =>
                    obtain ⟨R4, hR4⟩ : ∃ R, rdRun 4 num4 xs.length ([], s4) = R := ⟨_, rfl⟩
                    have HTT : Hid (t = decP5 dl ⟨⟨0, s4⟩, ex, xs⟩ R4.1 (chk ⟨0, R4.2⟩ (movesB { zeroC with wx := xs, m := R4.1 }))) := Lib.hid (by rw [HTT.out, chk_good HE4.out]; unfold decP4; rw [if_neg (by simp)]; dsimp only; rw [hR4])
                    have HIR4 : Hid (RdInv R4.2.1 R4.2.2) := Lib.hid (by rw [← hR4]; exact rdRun_invQ 4 num4 xs.length ([], s4) HI_s4.out)
                    have HR4 := Lib.hid hR4
                    have HP8 := Lib.hid (HP7.out.more (U' := w10.heap.size) (by omega) (Nat.le_refl _))
                    have hxl8 : xs.length ≤ 8192 := by have := HXL.out; omega
                    clear hR4 HE4 HP7 hu6
                    have hkl := Lib.hid HP8.out.loc
                    have ll := hkl.out.lt
                    have m2 := hkl.out.cell 2
                    simp only [List.getElem?_cons_zero, List.getElem?_cons_succ] at m2
                    go_wp2_with fail
                    clear m2  ll
                    clear hkl
                    (try dsimp only at HR4)
                    go_loopw [80] (fun i wr => ∃ (jj : Nat) (Bm : Option Addr) (dm : Nat) (A' : Option Addr) (c' : Nat) (rs : List Int × RdV), jj ≤ xs.length ∧ i = .int .i64 jj ∧ Hid (RS w wr w10.heap.size l p A A' c' rs.2 [.slice Am j cm, .int .i64 ex, .slice Ax xs.length cx, .slice Bm jj dm, .slice none 0 0, .int .i64 0, .slice none 0 0] ⟨.slice Am j cm, .slice Ax xs.length cx, .slice none 0 0, .slice none 0 0, .slice none 0 0, ⟨dl, ex, xs, [], [], 0, []⟩⟩ ∧ wr.ownsRow w10.heap.size 21 1 (.slice Bm jj dm) jj (ints .i32 rs.1) ∧ rs.1.length = jj ∧ rdRun 4 num4 (xs.length - jj) rs = R4 ∧ rs.2.1.length ≤ s4.1.length ∧ ∀ x ∈ rs.1, -2147483648 ≤ x ∧ x ≤ 2147483647)) (fun i _ => xs.length - (intOf i).toNat)
                    case atStart => exact ⟨0, none, 0, A7, c7, ([], s4), by omega, rfl, Lib.hid ⟨HP8.out, World.ownsRow_nil _ _ _ _, rfl, HR4.out, Nat.le_refl _, by simp⟩⟩
                    case round =>
                      obtain ⟨jj, Bm, dm, A', c', rs, hj, rfl, HX⟩ := hrel
                      clear HP8
                      by_cases hlt : jj < xs.length
                      · obtain ⟨s', hs'⟩ : ∃ s', rds rs.2 4 = s' := ⟨_, rfl⟩
                        obtain ⟨n2, hn2⟩ : ∃ n2, deB (rdt rs.2 4) = n2 := ⟨_, rfl⟩
                        have hlr := HX.out.2.2.2.2.1
                        have l' : s'.1.length ≤ rs.2.1.length := by rw [← hs']; exact rds_len _ _
                        have b2 : n2 < 4294967296 := by rw [← hn2]; exact deB_u32 _
                        have HI' : Hid (RdInv s'.1 s'.2) := Lib.hid (by rw [← hs']; exact rds_inv HX.out.1.inv.out)
                        have HN : Hid (rdRun 4 num4 (xs.length - (jj + 1)) (rs.1 ++ [IntKind.i32.wrap (n2 : Int)], s') = R4) := Lib.hid (by rw [← HX.out.2.2.2.1, rdRun_next 4 num4 xs.length jj hlt, ← hs', ← hn2]; rfl)
                        have HRT := Lib.hid hs'
                        have HNT := Lib.hid hn2
                        have i7 : (0 : Int) ≤ (jj : Int) := by omega
                        have j7 : (jj : Int) < (xs.length : Int) := by omega
                        clear hs' hn2
                        go_upto_region 26 with fail
                        have hdr : Below wr.heap.size wr wr.drew := (Below.refl _ _).drew
                        have HSd := Lib.hid (HX.out.1.below hdr)
                        have HOd : Hid (wr.drew.ownsRow w10.heap.size 21 1 (.slice Bm jj dm) jj (ints .i32 rs.1)) := Lib.hid (own_off HX.out.2.1 (Off.of_below hdr (S := fun i => wr.heap.size ≤ i) (fun i hi => .inl hi)) (fun k hk => by have := (HX.out.2.1.lt k hk).2; omega))
                        clear hdr
                        refine wp_region_held_drew (S := ((fun w' => l < w'.heap.size))) (by kernel_rfl) (HSd.out.loc.lt) (fun hHeld => ?_)
                        generalize wr.drew = wd at HSd HOd hHeld ⊢
                        have hkl := Lib.hid HSd.out.loc
                        have ll := hkl.out.lt
                        have m3 := hkl.out.cell 3
                        simp only [List.getElem?_cons_zero, List.getElem?_cons_succ] at m3
                        have hlen' := HSd.out.len
                        have HT := Lib.hid (mu32_any wd p A' c' rs.2.1 rs.2.2 HSd.out.inv.out HSd.out.rd (by omega))
                        rw [show deB (takeOut rs.2.1 rs.2.2 4) = n2 from HNT.out, show takeLeft rs.2.1 rs.2.2 4 = s'.1 by rw [← HRT.out]; rfl, show takeErr rs.2.1 rs.2.2 4 = s'.2 by rw [← HRT.out]; rfl] at HT
                        refine' wpAnyH_take (i := 0) (v := _) rfl (by kernel_rfl) (by kernel_rfl) (by kernel_rfl) (fun _ _ _ h => h) (Or.inl ⟨by rfl, ?taq10⟩) (by assumption) ?tbq10
                        case taq10 =>
                          intro wS hSw
                          (try dsimp only at hSw)
                          go_simp
                          (try (with_reducible rfl))
                        (try simp only [List.getElem_toArray, List.getElem_cons_zero, List.getElem_cons_succ, Act.put, List.setIfInBounds_toArray, List.set_cons_zero, List.set_cons_succ])
                        refine' wpAnyH_take (i := 2) (v := _) rfl (by kernel_rfl) (by kernel_rfl) (by kernel_rfl) (fun _ _ _ h => h) (Or.inl ⟨by rfl, ?taq11⟩) (by assumption) ?tbq11
                        case taq11 =>
                          intro wS hSw
                          (try dsimp only at hSw)
                          go_simp
                          (try (with_reducible rfl))
                        (try simp only [List.getElem_toArray, List.getElem_cons_zero, List.getElem_cons_succ, Act.put, List.setIfInBounds_toArray, List.set_cons_zero, List.set_cons_succ])
                        refine wpAnyH_ready (rs := [1, 3]) (by kernel_rfl) (by simp) ?_
                        refine AllReadyH.cons rfl (fun K9 hK9 => ?_) (AllReadyH.cons rfl (fun K9 hK9 => ?_) AllReadyH.nil)
                        ·
                          (try simp only [List.getElem_toArray, List.getElem_cons_zero, List.getElem_cons_succ])
                          go_simp
                          refine hK9.out _ _ ((by first | exact ll | exact l5)) (fun hHeld9 => ?_)
                          clear hK9 K9
                          (try simp only [List.getElem_toArray, List.getElem_cons_zero, List.getElem_cons_succ, Act.put, List.setIfInBounds_toArray, List.set_cons_zero, List.set_cons_succ])
                          refine wpAnyH_ready (rs := [3]) (by kernel_rfl) (by simp) ?_
                          refine AllReadyH.cons rfl (fun K9 hK9 => ?_) AllReadyH.nil
                          (try simp only [List.getElem_toArray, List.getElem_cons_zero, List.getElem_cons_succ])
                          go_simp
                          refine HT.out.mono ?_
                          rintro en w5 ⟨rfl, A5, c5, hrd, hA, ho⟩
                          have HS5 := Lib.hid (HSd.out.read (s' := s') hrd HI'.out hA ho l')
                          have HO5 := Lib.hid (own_off HOd.out ho (fun k hk => by have := (HOd.out.lt k hk).1; have := HSd.out.hU; have := HSd.out.lp; show ¬ k = p; omega))
                          have hu5 := HS5.out.hU
                          have hkl5 := Lib.hid HS5.out.loc
                          have l5 := hkl5.out.lt
                          have n3 := hkl5.out.cell 3
                          simp only [List.getElem?_cons_zero, List.getElem?_cons_succ] at n3
                          clear hrd hA ho
                          refine hK9.out _ _ (l5) (fun hHeld9 => ?_)
                          clear hK9 K9
                          (try simp only [List.getElem_toArray, List.getElem_cons_zero, List.getElem_cons_succ, Act.put, List.setIfInBounds_toArray, List.set_cons_zero, List.set_cons_succ])
                          refine' wpAnyH_take (i := 4) (v := _) rfl (by kernel_rfl) (by kernel_rfl) (by kernel_rfl) (fun _ _ _ h => h) (Or.inl ⟨by rfl, ?taq12⟩) (by assumption) ?tbq12
                          case taq12 =>
                            intro wS hSw
                            (try dsimp only at hSw)
                            go_simp
                            (try (with_reducible rfl))
                          (try simp only [List.getElem_toArray, List.getElem_cons_zero, List.getElem_cons_succ, Act.put, List.setIfInBounds_toArray, List.set_cons_zero, List.set_cons_succ])
                          refine wpAnyH_ready (rs := [5]) (by kernel_rfl) (by simp) ?_
                          refine AllReadyH.cons rfl (fun K9 hK9 => ?_) AllReadyH.nil
                          have hkb := (hkl5.out.alloc (.cells #[.int .i32 (IntKind.i32.wrap (n2 : Int))] 21)).cell 3
                          have lb : l < (w5.alloc (.cells #[.int .i32 (IntKind.i32.wrap (n2 : Int))] 21)).heap.size := by simp; omega
                          simp only [List.getElem?_cons_zero, List.getElem?_cons_succ] at hkb
                          (try simp only [List.getElem_toArray, List.getElem_cons_zero, List.getElem_cons_succ])
                          go_simp
                          refine hK9.out _ _ (lb) (fun hHeld9 => ?_)
                          clear hK9 K9
                          (try simp only [List.getElem_toArray, List.getElem_cons_zero, List.getElem_cons_succ, Act.put, List.setIfInBounds_toArray, List.set_cons_zero, List.set_cons_succ])
                          refine wpAnyH_ready (rs := [6]) (by kernel_rfl) (by simp) ?_
                          refine AllReadyH.cons rfl (fun K9 hK9 => ?_) AllReadyH.nil
                          (try simp only [List.getElem_toArray, List.getElem_cons_zero, List.getElem_cons_succ])
                          rw [if_pos (by rfl)]
                          refine wp_extend elem_i32k (w5.alloc (.cells #[.int .i32 (IntKind.i32.wrap (n2 : Int))] 21)) _ _ (by rfl) w10.heap.size jj _ _ (by rfl) (HO5.out.alloc _) _ _ [.int .i32 (IntKind.i32.wrap (n2 : Int))] (by rfl) (Reads.one_ w5 _ _) (by simp [Value.oneCell']) (by simp only [List.length_cons, List.length_nil, maxLen]; omega) (by simp only [List.length_cons, List.length_nil]; omega) (by simp only [World.size_alloc]; omega) ?_
                          intro A9 c9 w9 hown9 hg9 hf9
                          simp only [List.length_cons, List.length_nil, Nat.zero_add] at hown9 ⊢
                          have HS9 := Lib.hid ((HS5.out.below ((Below.refl _ w5).alloc (Nat.le_refl _) (.cells #[.int .i32 (IntKind.i32.wrap (n2 : Int))] 21))).over (S := fun i => (Value.slice Bm jj dm).ownBlock = some i) ((Off.refl _ _).grown hg9 (fun k hk => .inl hk)) (fun i hi => (HO5.out.lt i hi).1))
                          have q9 := HS9.out.loc.cell 3
                          have f9 := HS9.out.loc.free 3
                          have l9 := HS9.out.loc.lt
                          simp only [List.getElem?_cons_zero, List.getElem?_cons_succ] at q9
                          refine hK9.out _ _ (l9) (fun hHeld9 => ?_)
                          clear hK9 K9
                          (try simp only [List.getElem_toArray, List.getElem_cons_zero, List.getElem_cons_succ, Act.put, List.setIfInBounds_toArray, List.set_cons_zero, List.set_cons_succ])
                          refine' wpAnyH_take (i := 7) (v := _) rfl (by kernel_rfl) (by kernel_rfl) (by kernel_rfl) (fun _ _ _ h => h) (Or.inl ⟨by rfl, ?taq13⟩) (by assumption) ?tbq13
                          case taq13 =>
                            intro wS hSw
                            (try dsimp only at hSw)
                            go_simp
                            (try (with_reducible rfl))
                          (try simp only [List.getElem_toArray, List.getElem_cons_zero, List.getElem_cons_succ, Act.put, List.setIfInBounds_toArray, List.set_cons_zero, List.set_cons_succ])
                          have hof : Off (fun i => i = l) w9 (w9.setCell ⟨l, 3, none⟩ (.slice A9 (jj + 1) c9)) := (Off.refl (fun i => i = l) w9).setCell (p := ⟨l, 3, none⟩) (.inl rfl) _
                          have hk2 := HS9.out.loc.put 3 (.slice A9 (jj + 1) c9)
                          simp only [List.set_cons_succ, List.set_cons_zero] at hk2
                          have hu9 := HS9.out.hU
                          have HS10 := Lib.hid (HS9.out.turn hll hof hk2 (HS9.out.ins.off hof (fun g hg _ => by show ¬ g = _; omega) (fun g hg _ => hg)))
                          have e9 : ints .i32 rs.1 ++ [.int .i32 (IntKind.i32.wrap (n2 : Int))] = ints .i32 (rs.1 ++ [IntKind.i32.wrap (n2 : Int)]) := by rw [← ints_append]; rfl
                          rw [e9] at hown9
                          have HO10 := Lib.hid (own_off hown9 hof (fun k hk => by have := (hown9.lt k hk).1; show ¬ k = _; omega))
                          refine wpAnyH_ready (rs := [8]) (by kernel_rfl) (by simp) ?_
                          refine AllReadyH.cons rfl (fun K9 hK9 => ?_) AllReadyH.nil
                          (try simp only [List.getElem_toArray, List.getElem_cons_zero, List.getElem_cons_succ])
                          go_simp
                          refine hK9.out _ _ ((by first | exact HS10.out.loc.lt | exact HS10.out.loc.drew.lt)) (fun hHeld9 => ?_)
                          clear hK9 K9
                          (try simp only [List.getElem_toArray, List.getElem_cons_zero, List.getElem_cons_succ, Act.put, List.setIfInBounds_toArray, List.set_cons_zero, List.set_cons_succ])
                          refine wpAnyH_done (by kernel_rfl) ?_ _
                          clear hown9 hg9 hf9 e9 q9 f9 l9 hof hk2 hHeld hkb m3 n3 ll l5 lb hu9
                          go_wp2
                          go_roundw
                          case rel => exact ⟨jj + 1, A9, c9, A5, c5, (rs.1 ++ [IntKind.i32.wrap (n2 : Int)], s'), by omega, by go_num, Lib.hid ⟨HS10.out, HO10.out, by rw [List.length_append, HX.out.2.2.1]; rfl, HN.out, Nat.le_trans l' hlr, fun x hx => by
                            rcases List.mem_append.1 hx with hx | hx
                            · exact HX.out.2.2.2.2.2 x hx
                            · rw [List.mem_singleton.1 hx]; exact i32_in _⟩⟩
                          case measure => simp [intOf]; omega
                        ·
                          (try simp only [List.getElem_toArray, List.getElem_cons_zero, List.getElem_cons_succ])
                          go_simp
                          refine HT.out.mono ?_
                          rintro en w5 ⟨rfl, A5, c5, hrd, hA, ho⟩
                          have HS5 := Lib.hid (HSd.out.read (s' := s') hrd HI'.out hA ho l')
                          have HO5 := Lib.hid (own_off HOd.out ho (fun k hk => by have := (HOd.out.lt k hk).1; have := HSd.out.hU; have := HSd.out.lp; show ¬ k = p; omega))
                          have hu5 := HS5.out.hU
                          have hkl5 := Lib.hid HS5.out.loc
                          have l5 := hkl5.out.lt
                          have n3 := hkl5.out.cell 3
                          simp only [List.getElem?_cons_zero, List.getElem?_cons_succ] at n3
                          clear hrd hA ho
                          refine hK9.out _ _ (l5) (fun hHeld9 => ?_)
                          clear hK9 K9
                          (try simp only [List.getElem_toArray, List.getElem_cons_zero, List.getElem_cons_succ, Act.put, List.setIfInBounds_toArray, List.set_cons_zero, List.set_cons_succ])
                          refine' wpAnyH_take (i := 4) (v := _) rfl (by kernel_rfl) (by kernel_rfl) (by kernel_rfl) (fun _ _ _ h => h) (Or.inl ⟨by rfl, ?taq14⟩) (by assumption) ?tbq14
                          case taq14 =>
                            intro wS hSw
                            (try dsimp only at hSw)
                            go_simp
                            (try (with_reducible rfl))
                          (try simp only [List.getElem_toArray, List.getElem_cons_zero, List.getElem_cons_succ, Act.put, List.setIfInBounds_toArray, List.set_cons_zero, List.set_cons_succ])
                          refine wpAnyH_ready (rs := [1, 5]) (by kernel_rfl) (by simp) ?_
                          refine AllReadyH.cons rfl (fun K9 hK9 => ?_) (AllReadyH.cons rfl (fun K9 hK9 => ?_) AllReadyH.nil)
                          ·
                            (try simp only [List.getElem_toArray, List.getElem_cons_zero, List.getElem_cons_succ])
                            go_simp
                            refine hK9.out _ _ ((by first | exact ll | exact l5)) (fun hHeld9 => ?_)
                            clear hK9 K9
                            (try simp only [List.getElem_toArray, List.getElem_cons_zero, List.getElem_cons_succ, Act.put, List.setIfInBounds_toArray, List.set_cons_zero, List.set_cons_succ])
                            refine wpAnyH_ready (rs := [5]) (by kernel_rfl) (by simp) ?_
                            refine AllReadyH.cons rfl (fun K9 hK9 => ?_) AllReadyH.nil
                            have hkb := (hkl5.out.alloc (.cells #[.int .i32 (IntKind.i32.wrap (n2 : Int))] 21)).cell 3
                            have lb : l < (w5.alloc (.cells #[.int .i32 (IntKind.i32.wrap (n2 : Int))] 21)).heap.size := by simp; omega
                            simp only [List.getElem?_cons_zero, List.getElem?_cons_succ] at hkb
                            (try simp only [List.getElem_toArray, List.getElem_cons_zero, List.getElem_cons_succ])
                            go_simp
                            refine hK9.out _ _ (lb) (fun hHeld9 => ?_)
                            clear hK9 K9
                            (try simp only [List.getElem_toArray, List.getElem_cons_zero, List.getElem_cons_succ, Act.put, List.setIfInBounds_toArray, List.set_cons_zero, List.set_cons_succ])
                            refine wpAnyH_ready (rs := [6]) (by kernel_rfl) (by simp) ?_
                            refine AllReadyH.cons rfl (fun K9 hK9 => ?_) AllReadyH.nil
                            (try simp only [List.getElem_toArray, List.getElem_cons_zero, List.getElem_cons_succ])
                            rw [if_pos (by rfl)]
                            refine wp_extend elem_i32k (w5.alloc (.cells #[.int .i32 (IntKind.i32.wrap (n2 : Int))] 21)) _ _ (by rfl) w10.heap.size jj _ _ (by rfl) (HO5.out.alloc _) _ _ [.int .i32 (IntKind.i32.wrap (n2 : Int))] (by rfl) (Reads.one_ w5 _ _) (by simp [Value.oneCell']) (by simp only [List.length_cons, List.length_nil, maxLen]; omega) (by simp only [List.length_cons, List.length_nil]; omega) (by simp only [World.size_alloc]; omega) ?_
                            intro A9 c9 w9 hown9 hg9 hf9
                            simp only [List.length_cons, List.length_nil, Nat.zero_add] at hown9 ⊢
                            have HS9 := Lib.hid ((HS5.out.below ((Below.refl _ w5).alloc (Nat.le_refl _) (.cells #[.int .i32 (IntKind.i32.wrap (n2 : Int))] 21))).over (S := fun i => (Value.slice Bm jj dm).ownBlock = some i) ((Off.refl _ _).grown hg9 (fun k hk => .inl hk)) (fun i hi => (HO5.out.lt i hi).1))
                            have q9 := HS9.out.loc.cell 3
                            have f9 := HS9.out.loc.free 3
                            have l9 := HS9.out.loc.lt
                            simp only [List.getElem?_cons_zero, List.getElem?_cons_succ] at q9
                            refine hK9.out _ _ (l9) (fun hHeld9 => ?_)
                            clear hK9 K9
                            (try simp only [List.getElem_toArray, List.getElem_cons_zero, List.getElem_cons_succ, Act.put, List.setIfInBounds_toArray, List.set_cons_zero, List.set_cons_succ])
                            refine' wpAnyH_take (i := 7) (v := _) rfl (by kernel_rfl) (by kernel_rfl) (by kernel_rfl) (fun _ _ _ h => h) (Or.inl ⟨by rfl, ?taq15⟩) (by assumption) ?tbq15
                            case taq15 =>
                              intro wS hSw
                              (try dsimp only at hSw)
                              go_simp
                              (try (with_reducible rfl))
                            (try simp only [List.getElem_toArray, List.getElem_cons_zero, List.getElem_cons_succ, Act.put, List.setIfInBounds_toArray, List.set_cons_zero, List.set_cons_succ])
                            have hof : Off (fun i => i = l) w9 (w9.setCell ⟨l, 3, none⟩ (.slice A9 (jj + 1) c9)) := (Off.refl (fun i => i = l) w9).setCell (p := ⟨l, 3, none⟩) (.inl rfl) _
                            have hk2 := HS9.out.loc.put 3 (.slice A9 (jj + 1) c9)
                            simp only [List.set_cons_succ, List.set_cons_zero] at hk2
                            have hu9 := HS9.out.hU
                            have HS10 := Lib.hid (HS9.out.turn hll hof hk2 (HS9.out.ins.off hof (fun g hg _ => by show ¬ g = _; omega) (fun g hg _ => hg)))
                            have e9 : ints .i32 rs.1 ++ [.int .i32 (IntKind.i32.wrap (n2 : Int))] = ints .i32 (rs.1 ++ [IntKind.i32.wrap (n2 : Int)]) := by rw [← ints_append]; rfl
                            rw [e9] at hown9
                            have HO10 := Lib.hid (own_off hown9 hof (fun k hk => by have := (hown9.lt k hk).1; show ¬ k = _; omega))
                            refine wpAnyH_ready (rs := [8]) (by kernel_rfl) (by simp) ?_
                            refine AllReadyH.cons rfl (fun K9 hK9 => ?_) AllReadyH.nil
                            (try simp only [List.getElem_toArray, List.getElem_cons_zero, List.getElem_cons_succ])
                            go_simp
                            refine hK9.out _ _ ((by first | exact HS10.out.loc.lt | exact HS10.out.loc.drew.lt)) (fun hHeld9 => ?_)
                            clear hK9 K9
                            (try simp only [List.getElem_toArray, List.getElem_cons_zero, List.getElem_cons_succ, Act.put, List.setIfInBounds_toArray, List.set_cons_zero, List.set_cons_succ])
                            refine wpAnyH_done (by kernel_rfl) ?_ _
                            clear hown9 hg9 hf9 e9 q9 f9 l9 hof hk2 hHeld hkb m3 n3 ll l5 lb hu9
                            go_wp2
                            go_roundw
                            case rel => exact ⟨jj + 1, A9, c9, A5, c5, (rs.1 ++ [IntKind.i32.wrap (n2 : Int)], s'), by omega, by go_num, Lib.hid ⟨HS10.out, HO10.out, by rw [List.length_append, HX.out.2.2.1]; rfl, HN.out, Nat.le_trans l' hlr, fun x hx => by
                              rcases List.mem_append.1 hx with hx | hx
                              · exact HX.out.2.2.2.2.2 x hx
                              · rw [List.mem_singleton.1 hx]; exact i32_in _⟩⟩
                            case measure => simp [intOf]; omega
                          ·
                            have hkb := (hkl5.out.alloc (.cells #[.int .i32 (IntKind.i32.wrap (n2 : Int))] 21)).cell 3
                            have lb : l < (w5.alloc (.cells #[.int .i32 (IntKind.i32.wrap (n2 : Int))] 21)).heap.size := by simp; omega
                            simp only [List.getElem?_cons_zero, List.getElem?_cons_succ] at hkb
                            (try simp only [List.getElem_toArray, List.getElem_cons_zero, List.getElem_cons_succ])
                            go_simp
                            refine hK9.out _ _ (lb) (fun hHeld9 => ?_)
                            clear hK9 K9
                            (try simp only [List.getElem_toArray, List.getElem_cons_zero, List.getElem_cons_succ, Act.put, List.setIfInBounds_toArray, List.set_cons_zero, List.set_cons_succ])
                            refine wpAnyH_ready (rs := [1]) (by kernel_rfl) (by simp) ?_
                            refine AllReadyH.cons rfl (fun K9 hK9 => ?_) AllReadyH.nil
                            (try simp only [List.getElem_toArray, List.getElem_cons_zero, List.getElem_cons_succ])
                            go_simp
                            refine hK9.out _ _ (lb) (fun hHeld9 => ?_)
                            clear hK9 K9
                            (try simp only [List.getElem_toArray, List.getElem_cons_zero, List.getElem_cons_succ, Act.put, List.setIfInBounds_toArray, List.set_cons_zero, List.set_cons_succ])
                            refine wpAnyH_ready (rs := [6]) (by kernel_rfl) (by simp) ?_
                            refine AllReadyH.cons rfl (fun K9 hK9 => ?_) AllReadyH.nil
                            (try simp only [List.getElem_toArray, List.getElem_cons_zero, List.getElem_cons_succ])
                            rw [if_pos (by rfl)]
                            refine wp_extend elem_i32k (w5.alloc (.cells #[.int .i32 (IntKind.i32.wrap (n2 : Int))] 21)) _ _ (by rfl) w10.heap.size jj _ _ (by rfl) (HO5.out.alloc _) _ _ [.int .i32 (IntKind.i32.wrap (n2 : Int))] (by rfl) (Reads.one_ w5 _ _) (by simp [Value.oneCell']) (by simp only [List.length_cons, List.length_nil, maxLen]; omega) (by simp only [List.length_cons, List.length_nil]; omega) (by simp only [World.size_alloc]; omega) ?_
                            intro A9 c9 w9 hown9 hg9 hf9
                            simp only [List.length_cons, List.length_nil, Nat.zero_add] at hown9 ⊢
                            have HS9 := Lib.hid ((HS5.out.below ((Below.refl _ w5).alloc (Nat.le_refl _) (.cells #[.int .i32 (IntKind.i32.wrap (n2 : Int))] 21))).over (S := fun i => (Value.slice Bm jj dm).ownBlock = some i) ((Off.refl _ _).grown hg9 (fun k hk => .inl hk)) (fun i hi => (HO5.out.lt i hi).1))
                            have q9 := HS9.out.loc.cell 3
                            have f9 := HS9.out.loc.free 3
                            have l9 := HS9.out.loc.lt
                            simp only [List.getElem?_cons_zero, List.getElem?_cons_succ] at q9
                            refine hK9.out _ _ (l9) (fun hHeld9 => ?_)
                            clear hK9 K9
                            (try simp only [List.getElem_toArray, List.getElem_cons_zero, List.getElem_cons_succ, Act.put, List.setIfInBounds_toArray, List.set_cons_zero, List.set_cons_succ])
                            refine' wpAnyH_take (i := 7) (v := _) rfl (by kernel_rfl) (by kernel_rfl) (by kernel_rfl) (fun _ _ _ h => h) (Or.inl ⟨by rfl, ?taq16⟩) (by assumption) ?tbq16
                            case taq16 =>
                              intro wS hSw
                              (try dsimp only at hSw)
                              go_simp
                              (try (with_reducible rfl))
                            (try simp only [List.getElem_toArray, List.getElem_cons_zero, List.getElem_cons_succ, Act.put, List.setIfInBounds_toArray, List.set_cons_zero, List.set_cons_succ])
                            have hof : Off (fun i => i = l) w9 (w9.setCell ⟨l, 3, none⟩ (.slice A9 (jj + 1) c9)) := (Off.refl (fun i => i = l) w9).setCell (p := ⟨l, 3, none⟩) (.inl rfl) _
                            have hk2 := HS9.out.loc.put 3 (.slice A9 (jj + 1) c9)
                            simp only [List.set_cons_succ, List.set_cons_zero] at hk2
                            have hu9 := HS9.out.hU
                            have HS10 := Lib.hid (HS9.out.turn hll hof hk2 (HS9.out.ins.off hof (fun g hg _ => by show ¬ g = _; omega) (fun g hg _ => hg)))
                            have e9 : ints .i32 rs.1 ++ [.int .i32 (IntKind.i32.wrap (n2 : Int))] = ints .i32 (rs.1 ++ [IntKind.i32.wrap (n2 : Int)]) := by rw [← ints_append]; rfl
                            rw [e9] at hown9
                            have HO10 := Lib.hid (own_off hown9 hof (fun k hk => by have := (hown9.lt k hk).1; show ¬ k = _; omega))
                            refine wpAnyH_ready (rs := [8]) (by kernel_rfl) (by simp) ?_
                            refine AllReadyH.cons rfl (fun K9 hK9 => ?_) AllReadyH.nil
                            (try simp only [List.getElem_toArray, List.getElem_cons_zero, List.getElem_cons_succ])
                            go_simp
                            refine hK9.out _ _ ((by first | exact HS10.out.loc.lt | exact HS10.out.loc.drew.lt)) (fun hHeld9 => ?_)
                            clear hK9 K9
                            (try simp only [List.getElem_toArray, List.getElem_cons_zero, List.getElem_cons_succ, Act.put, List.setIfInBounds_toArray, List.set_cons_zero, List.set_cons_succ])
                            refine wpAnyH_done (by kernel_rfl) ?_ _
                            clear hown9 hg9 hf9 e9 q9 f9 l9 hof hk2 hHeld hkb m3 n3 ll l5 lb hu9
                            go_wp2
                            go_roundw
                            case rel => exact ⟨jj + 1, A9, c9, A5, c5, (rs.1 ++ [IntKind.i32.wrap (n2 : Int)], s'), by omega, by go_num, Lib.hid ⟨HS10.out, HO10.out, by rw [List.length_append, HX.out.2.2.1]; rfl, HN.out, Nat.le_trans l' hlr, fun x hx => by
                              rcases List.mem_append.1 hx with hx | hx
                              · exact HX.out.2.2.2.2.2 x hx
                              · rw [List.mem_singleton.1 hx]; exact i32_in _⟩⟩
                            case measure => simp [intOf]; omega
                      · have hjx : jj = xs.length := by omega
                        have hrr : rs = R4 := by have h1 := HX.out.2.2.2.1; rw [hjx, Nat.sub_self] at h1; exact h1
                        subst hrr
                        obtain ⟨ml, r4⟩ := rs
                        have hml := HX.out.2.2.1
                        dsimp only at hml HX HTT HIR4
                        have HML := Lib.hid hml
                        have HJX := Lib.hid hjx
                        have HPS := Lib.hid HX.out.1
                        have HOM := Lib.hid HX.out.2.1
                        have HMB : Hid (∀ x ∈ ml, -2147483648 ≤ x ∧ x ≤ 2147483647) := Lib.hid HX.out.2.2.2.2.2
                        have hl4 := HX.out.2.2.2.2.1
                        have hu8 := HPS.out.hU
                        have hpm := HPS.out.more (U' := wr.heap.size) hu8.2.2 (Nat.le_refl _)
                        have hin : ParV.In (fun g => l < g ∧ g < wr.heap.size) wr (⟨.slice Am j cm, .slice Ax xs.length cx, .slice Bm jj dm, .slice none 0 0, .slice none 0 0, ⟨dl, ex, xs, ml, [], 0, []⟩⟩ : ParV) := ⟨hpm.ins.wd, hpm.ins.wx, RowS.of_own HOM.out (fun k hk => by have := HOM.out.lt k hk; omega), RowS.nil_ _ _, RowS.nil_ _ _, ⟨HDB, HXB, by dsimp only; omega, by dsimp only; omega, HMB, Lib.hid (by simp), Lib.hid (by simp), by simp, by simp, by unfold lenP; have := HDL.out; simp only [List.length_nil]; omega⟩⟩
                        have HP9 := Lib.hid (hpm.turn hll (Off.refl _ _) hpm.loc hin)
                        have tlt : decide ((jj : Int) < (xs.length : Int)) = false := decide_eq_false (by omega)
                        have tlt2 : xs.length ≤ jj := by omega
                        have hml8 : jj ≤ 8192 := by omega
                        clear hlt HX HR4 hpm hin HPS HOM hml hjx hu8
                        have hke := Lib.hid HP9.out.rd.blk
                        have le := hke.out.lt
                        have e1 := hke.out.cell 1
                        simp only [List.getElem?_cons_zero, List.getElem?_cons_succ] at e1
                        clear hke
                        by_cases he5 : r4.2 = 0
                        · have te5 : (r4.2 != 0) = false := by simp [he5]
                          have HE5 := Lib.hid he5
                          clear he5
                          have hkl := Lib.hid HP9.out.loc
                          have ll := hkl.out.lt
                          have m3 := hkl.out.cell 3
                          simp only [List.getElem?_cons_zero, List.getElem?_cons_succ] at m3
                          go_wp2_with fail
                          clear m3  ll
                          clear hkl tlt tlt2 te5 e1 le
                          have HRM := Lib.hid HP9.out.ins.m.reads
                          dsimp only at HRM
                          go_loopw [100] (fun i wx => ∃ m : Nat, m ≤ jj ∧ i = .int .i64 m ∧ wx = wr ∧ Hid (∀ x ∈ ml.take m, inM x = true)) (fun i _ => jj - (intOf i).toNat)
                          case atStart => exact ⟨0, by omega, rfl, rfl, Lib.hid (by simp)⟩
                          case round =>
                            obtain ⟨m, hm, rfl, rfl, HAL⟩ := hrel
                            by_cases hlt : m < jj
                            · obtain ⟨A3, n3', c3, e3, _, _, _, hat⟩ := HRM.out
                              injection e3 with e31 e32 e33
                              subst e31 e32 e33
                              obtain ⟨g3, o3, rfl, hg3, hx3⟩ := hat.out (by omega)
                              have hmll : m < ml.length := by have := HML.out; omega
                              have r1 := hx3 m (.int .i32 ml[m]) (ints_at _ _ _ hmll)
                              obtain ⟨y, hy⟩ : ∃ y, ml[m] = y := ⟨_, rfl⟩
                              rw [hy] at r1
                              have HY : Hid (∀ x ∈ ml.take (m + 1), x ∈ ml.take m ∨ x = y) := Lib.hid (fun x hx => by
                                rw [List.take_add_one, List.getElem?_eq_getElem hmll, hy] at hx
                                rcases List.mem_append.1 hx with h | h
                                · exact .inl h
                                · exact .inr (by simpa using h))
                              have HYM : Hid (y ∈ ml) := Lib.hid (by rw [← hy]; exact List.getElem_mem hmll)
                              have i7 : (0 : Int) ≤ (m : Int) := by omega
                              have j7 : (m : Int) < (jj : Int) := by omega
                              clear hat hx3 hy hmll HRM
                              by_cases hy1 : y < -1048576
                              · have ty1 : decide (y < -1048576) = true := decide_eq_true hy1
                                have hnm : inM y = false := by unfold inM; rw [decide_eq_false (by omega)]; rfl
                                have HTT : Hid (t = ⟨⟨5, r4⟩, zeroC⟩) := Lib.hid (by rw [HTT.out, show movesB { zeroC with wx := xs, m := ml } = false from by unfold movesB; rw [show ml.all inM = false from List.all_eq_false.2 ⟨y, HYM.out, by rw [hnm]; decide⟩, Bool.and_false], chk_bad HE5.out]; unfold decP5; rw [if_pos (by simp)])
                                clear hnm
                                have hkl := Lib.hid HP9.out.non
                                have hkr := Lib.hid HP9.out.res
                                have ll := hkl.out.lt
                                have lr := hkr.out.lt
                                have f0 := hkr.out.free 0
                                have f1 := hkr.out.free 1
                                have f2 := hkr.out.free 2
                                have f3 := hkr.out.free 3
                                have f4 := hkr.out.free 4
                                have f5 := hkr.out.free 5
                                have f6 := hkr.out.free 6
                                unfold zcells at hkl
                                unfold zcells at hkr
                                have m0 := hkl.out.cell 0
                                have m1 := hkl.out.cell 1
                                have m2 := hkl.out.cell 2
                                have m3 := hkl.out.cell 3
                                have m4 := hkl.out.cell 4
                                have m5 := hkl.out.cell 5
                                have m6 := hkl.out.cell 6
                                simp only [List.getElem?_cons_zero, List.getElem?_cons_succ] at m0 m1 m2 m3 m4 m5 m6
                                have r0 := hkr.out.cell 0
                                have r1 := hkr.out.cell 1
                                have r2 := hkr.out.cell 2
                                have r3 := hkr.out.cell 3
                                have r4 := hkr.out.cell 4
                                have r5 := hkr.out.cell 5
                                have r6 := hkr.out.cell 6
                                simp only [List.getElem?_cons_zero, List.getElem?_cons_succ] at r0 r1 r2 r3 r4 r5 r6
                                go_wp2_with fail
                                clear f0 f1 f2 f3 f4 f5 f6 m0 m1 m2 m3 m4 m5 m6 r0 r1 r2 r3 r4 r5 r6 hkl hkr
                                have hq := HP9.out.fin (.slice none 0 0) (.int .i64 0) (.slice none 0 0) (.slice none 0 0) (.slice none 0 0) (.int .i64 0) (.slice none 0 0)
                                unfold seven at hq
                                generalize (((((((wr.setCell ⟨w.heap.size, 0, none⟩ (.slice none 0 0)).setCell ⟨w.heap.size, 1, none⟩ (.int .i64 0)).setCell ⟨w.heap.size, 2, none⟩ (.slice none 0 0)).setCell ⟨w.heap.size, 3, none⟩ (.slice none 0 0)).setCell ⟨w.heap.size, 4, none⟩ (.slice none 0 0)).setCell ⟨w.heap.size, 5, none⟩ (.int .i64 0)).setCell ⟨w.heap.size, 6, none⟩ (.slice none 0 0)) = W at hq ⊢
                                obtain ⟨hqb, hqr, hqi, hqo⟩ := hq
                                have hqb := Lib.hid hqb
                                have p0 := hqb.out.cell 0
                                have p1 := hqb.out.cell 1
                                have p2 := hqb.out.cell 2
                                have p3 := hqb.out.cell 3
                                have p4 := hqb.out.cell 4
                                have p5 := hqb.out.cell 5
                                have p6 := hqb.out.cell 6
                                simp only [List.getElem?_cons_zero, List.getElem?_cons_succ] at p0 p1 p2 p3 p4 p5 p6
                                refine bodyPost_ret (v := .tuple #[.agg #[.slice none 0 0, .int .i64 0, .slice none 0 0, .slice none 0 0, .slice none 0 0, .int .i64 0, .slice none 0 0], .int .i64 5]) ?_ rfl ?_
                                · simp [results, Try.results35, asAddr, Result.andThen, p0, p1, p2, p3, p4, p5, p6, go_sem]
                                · rw [HTT.out]
                                  exact ⟨A', c', zeroV, r4, rfl, zeroV_in _ _, fun h => absurd h (by simp), hqr, HP9.out.inv.out, HP9.out.sa, hqo⟩
                              · have ty1 : decide (y < -1048576) = false := decide_eq_false hy1
                                by_cases hy2 : 1048576 < y
                                · have ty2 : decide (1048576 < y) = true := decide_eq_true hy2
                                  have hnm : inM y = false := by unfold inM; rw [decide_eq_false (show ¬ y ≤ 1048576 by omega), Bool.and_false]
                                  have HTT : Hid (t = ⟨⟨5, r4⟩, zeroC⟩) := Lib.hid (by rw [HTT.out, show movesB { zeroC with wx := xs, m := ml } = false from by unfold movesB; rw [show ml.all inM = false from List.all_eq_false.2 ⟨y, HYM.out, by rw [hnm]; decide⟩, Bool.and_false], chk_bad HE5.out]; unfold decP5; rw [if_pos (by simp)])
                                  clear hnm
                                  have hkl := Lib.hid HP9.out.non
                                  have hkr := Lib.hid HP9.out.res
                                  have ll := hkl.out.lt
                                  have lr := hkr.out.lt
                                  have f0 := hkr.out.free 0
                                  have f1 := hkr.out.free 1
                                  have f2 := hkr.out.free 2
                                  have f3 := hkr.out.free 3
                                  have f4 := hkr.out.free 4
                                  have f5 := hkr.out.free 5
                                  have f6 := hkr.out.free 6
                                  unfold zcells at hkl
                                  unfold zcells at hkr
                                  have m0 := hkl.out.cell 0
                                  have m1 := hkl.out.cell 1
                                  have m2 := hkl.out.cell 2
                                  have m3 := hkl.out.cell 3
                                  have m4 := hkl.out.cell 4
                                  have m5 := hkl.out.cell 5
                                  have m6 := hkl.out.cell 6
                                  simp only [List.getElem?_cons_zero, List.getElem?_cons_succ] at m0 m1 m2 m3 m4 m5 m6
                                  have r0 := hkr.out.cell 0
                                  have r1 := hkr.out.cell 1
                                  have r2 := hkr.out.cell 2
                                  have r3 := hkr.out.cell 3
                                  have r4 := hkr.out.cell 4
                                  have r5 := hkr.out.cell 5
                                  have r6 := hkr.out.cell 6
                                  simp only [List.getElem?_cons_zero, List.getElem?_cons_succ] at r0 r1 r2 r3 r4 r5 r6
                                  go_wp2_with fail
                                  clear f0 f1 f2 f3 f4 f5 f6 m0 m1 m2 m3 m4 m5 m6 r0 r1 r2 r3 r4 r5 r6 hkl hkr
                                  have hq := HP9.out.fin (.slice none 0 0) (.int .i64 0) (.slice none 0 0) (.slice none 0 0) (.slice none 0 0) (.int .i64 0) (.slice none 0 0)
                                  unfold seven at hq
                                  generalize (((((((wr.setCell ⟨w.heap.size, 0, none⟩ (.slice none 0 0)).setCell ⟨w.heap.size, 1, none⟩ (.int .i64 0)).setCell ⟨w.heap.size, 2, none⟩ (.slice none 0 0)).setCell ⟨w.heap.size, 3, none⟩ (.slice none 0 0)).setCell ⟨w.heap.size, 4, none⟩ (.slice none 0 0)).setCell ⟨w.heap.size, 5, none⟩ (.int .i64 0)).setCell ⟨w.heap.size, 6, none⟩ (.slice none 0 0)) = W at hq ⊢
                                  obtain ⟨hqb, hqr, hqi, hqo⟩ := hq
                                  have hqb := Lib.hid hqb
                                  have p0 := hqb.out.cell 0
                                  have p1 := hqb.out.cell 1
                                  have p2 := hqb.out.cell 2
                                  have p3 := hqb.out.cell 3
                                  have p4 := hqb.out.cell 4
                                  have p5 := hqb.out.cell 5
                                  have p6 := hqb.out.cell 6
                                  simp only [List.getElem?_cons_zero, List.getElem?_cons_succ] at p0 p1 p2 p3 p4 p5 p6
                                  refine bodyPost_ret (v := .tuple #[.agg #[.slice none 0 0, .int .i64 0, .slice none 0 0, .slice none 0 0, .slice none 0 0, .int .i64 0, .slice none 0 0], .int .i64 5]) ?_ rfl ?_
                                  · simp [results, Try.results35, asAddr, Result.andThen, p0, p1, p2, p3, p4, p5, p6, go_sem]
                                  · rw [HTT.out]
                                    exact ⟨A', c', zeroV, r4, rfl, zeroV_in _ _, fun h => absurd h (by simp), hqr, HP9.out.inv.out, HP9.out.sa, hqo⟩
                                · have ty2 : decide (1048576 < y) = false := decide_eq_false hy2
                                  have HOK : Hid (inM y = true) := Lib.hid (by unfold inM; rw [decide_eq_true (show -1048576 ≤ y by omega), decide_eq_true (show y ≤ 1048576 by omega)]; rfl)
                                  go_wp2_with fail
                                  clear ty1 ty2
                                  go_roundw
                                  case rel => exact ⟨m + 1, by omega, by go_num, (by first | rfl | trivial), Lib.hid (fun x hx => by
                                    rcases HY.out x hx with h | h
                                    · exact HAL.out x h
                                    · rw [h]; exact HOK.out)⟩
                                  case measure => simp [intOf]; omega
                            · have hmj : jj = m := by omega
                              subst hmj
                              have HTT : Hid (t = decP5 dl ⟨⟨0, s4⟩, ex, xs⟩ ml ⟨0, r4⟩) := Lib.hid (by rw [HTT.out, show movesB { zeroC with wx := xs, m := ml } = true from by (unfold movesB; rw [decide_eq_true (by dsimp only; have := HML.out; have := HJX.out; omega), Bool.true_and]; dsimp only; exact List.all_eq_true.2 (fun x hx => HAL.out x (by rw [List.take_of_length_le (by have := HML.out; omega)]; exact hx))), chk_good HE5.out])
                              clear hlt HAL HRM
                              obtain ⟨s5, hs'⟩ : ∃ s', rds r4 2 = s' := ⟨_, rfl⟩
                              obtain ⟨n5, hn'⟩ : ∃ n', deB (rdt r4 2) = n' := ⟨_, rfl⟩
                              have l_s5 : s5.1.length ≤ r4.1.length := by rw [← hs']; exact rds_len _ _
                              have b_n5 : n5 < 65536 := by rw [← hn']; exact deB_u16 _
                              have HI_s5 : Hid (RdInv s5.1 s5.2) := Lib.hid (by rw [← hs']; exact rds_inv HP9.out.inv.out)
                              have hle' := HP9.out.len
                              have HT := Lib.hid (mu16_any wr p A' c' r4.1 r4.2 HP9.out.inv.out HP9.out.rd (by omega))
                              rw [show deB (takeOut r4.1 r4.2 2) = n5 from hn', show takeLeft r4.1 r4.2 2 = s5.1 by rw [← hs']; rfl, show takeErr r4.1 r4.2 2 = s5.2 by rw [← hs']; rfl] at HT
                              have HTT : Hid (t = decP6 dl ⟨⟨0, s4⟩, ex, xs⟩ ml (chk ⟨0, s5⟩ (decide (0 < sizeI [(n5 : Int)]))) (n5 : Int)) := Lib.hid (by rw [HTT.out]; unfold decP5; rw [if_neg (by simp)]; unfold num2; dsimp only; rw [hs', hn'])
                              clear hs' hn' hle'
                              go_wp2_with fail
                              refine HT.out.mono ?_
                              rintro en w11 ⟨rfl, A9, c9, hrd, hA, ho⟩
                              have HP10 := Lib.hid (HP9.out.read (s' := s5) hrd HI_s5.out hA ho l_s5)
                              clear hrd hA ho HT HP9
                              have hke := Lib.hid HP10.out.rd.blk
                              have le := hke.out.lt
                              have e1 := hke.out.cell 1
                              simp only [List.getElem?_cons_zero, List.getElem?_cons_succ] at e1
                              clear hke
                              by_cases he6 : s5.2 = 0
                              · have te6 : (s5.2 != 0) = false := by simp [he6]
                                have HE6 := Lib.hid he6
                                clear he6
                                have hkl := Lib.hid HP10.out.loc
                                have ll := hkl.out.lt
                                have m4 := hkl.out.cell 4
                                simp only [List.getElem?_cons_zero, List.getElem?_cons_succ] at m4
                                have f4 := hkl.out.free 4
                                go_upto_region 40 with fail
                                clear m4 f4 ll
                                clear hkl te6 e1 le
                                obtain ⟨g5, hg5⟩ : ∃ g, w11.heap.size = g := ⟨_, rfl⟩
                                rw [hg5]
                                have hk2 := HP10.out.loc.put 4 (.slice (some ⟨g5, 0, none⟩) 1 1)
                                have hof : Off (fun i => i = l) w11 (w11.setCell ⟨l, 4, none⟩ (.slice (some ⟨g5, 0, none⟩) 1 1)) := (Off.refl (fun i => i = l) w11).setCell (p := ⟨l, 4, none⟩) (.inl rfl) _
                                simp only [List.set_cons_succ, List.set_cons_zero] at hk2
                                have hz : (w11.setCell ⟨l, 4, none⟩ (.slice (some ⟨g5, 0, none⟩) 1 1)).heap.size = w11.heap.size := by simp
                                have hu10 := HP10.out.hU
                                have HPa := Lib.hid (HP10.out.turn hll hof hk2 (HP10.out.ins.off hof (fun g hg _ => by show ¬ g = _; omega) (fun g hg _ => hg)))
                                clear hk2 hof HP10
                                generalize (w11.setCell ⟨l, 4, none⟩ (.slice (some ⟨g5, 0, none⟩) 1 1)) = w12 at HPa hz ⊢
                                rw [hg5] at hz
                                have KB := Blk.fresh w12 3 [.int .i64 (n5 : Int)]
                                rw [hz] at KB
                                have hbl := (Below.refl w12.heap.size w12).alloc (Nat.le_refl _) (.cells #[.int .i64 (n5 : Int)] 3)
                                have hz2 : (w12.alloc (.cells #[.int .i64 (n5 : Int)] 3)).heap.size = g5 + 1 := by simp [hz]
                                have hpb := (HPa.out.below hbl).more (U' := g5 + 1) (by omega) (by omega)
                                have HN5 : Hid (∀ x ∈ [(n5 : Int)], -9223372036854775808 ≤ x ∧ x ≤ 9223372036854775807) := Lib.hid (fun x hx => by rw [List.mem_singleton.1 hx]; omega)
                                have hin : ParV.In (fun g => l < g ∧ g < g5 + 1) (w12.alloc (.cells #[.int .i64 (n5 : Int)] 3)) (⟨.slice Am j cm, .slice Ax xs.length cx, .slice Bm jj dm, .slice (some ⟨g5, 0, none⟩) 1 1, .slice none 0 0, ⟨dl, ex, xs, ml, [(n5 : Int)], 0, []⟩⟩ : ParV) := ⟨hpb.ins.wd, hpb.ins.wx, hpb.ins.m, RowS.of_blk KB (n := 1) rfl (by decide) (by omega), RowS.nil_ _ _, ⟨HDB, HXB, by dsimp only; omega, by dsimp only; omega, HMB, HN5, Lib.hid (by simp), by simp, by simp, by unfold lenP; have := HDL.out; have := HML.out; simp only [List.length_nil, List.length_cons]; omega⟩⟩
                                have HP11 := Lib.hid (hpb.turn hll (Off.refl _ _) hpb.loc hin)
                                clear KB hbl hpb hin HPa hz
                                generalize (w12.alloc (.cells #[.int .i64 (n5 : Int)] 3)) = w13 at HP11 hz2 ⊢
                                clear hg5 hu10
                                have hkl := Lib.hid HP11.out.loc
                                have ll := hkl.out.lt
                                have m4 := hkl.out.cell 4
                                simp only [List.getElem?_cons_zero, List.getElem?_cons_succ] at m4
                                go_wp2_with fail
                                refine (maydims_any [(n5 : Int)] _ w13 _ HP11.out.ins.bd.reads HN5.out).mono ?_
                                rintro en w' ⟨rfl, rfl⟩
                                clear m4  ll
                                clear hkl
                                by_cases hsy : 0 < sizeI [(n5 : Int)]
                                · have tsz : decide (0 < sizeI [(n5 : Int)]) = true := decide_eq_true hsy
                                  have hn5 := sizeI_each hsy (n5 : Int) List.mem_cons_self
                                  have HSN : Hid (sizeI [(n5 : Int)] = (n5 : Int)) := Lib.hid (sizeI_one hn5.1 hn5.2)
                                  have HTT : Hid (t = ⟨(decT ⟨0, s5⟩ [(n5 : Int)]).z, ⟨dl, ex, xs, ml, [(n5 : Int)], (decT ⟨0, s5⟩ [(n5 : Int)]).e, (decT ⟨0, s5⟩ [(n5 : Int)]).x⟩⟩) := Lib.hid (by rw [HTT.out, tsz, chk_good HE6.out]; unfold decP6; rw [if_neg (by simp)])
                                  rw [tsz]
                                  clear tsz hsy
                                  obtain ⟨s6, hs'⟩ : ∃ s', rds s5 1 = s' := ⟨_, rfl⟩
                                  obtain ⟨n6, hn'⟩ : ∃ n', deB (rdt s5 1) = n' := ⟨_, rfl⟩
                                  have l_s6 : s6.1.length ≤ s5.1.length := by rw [← hs']; exact rds_len _ _
                                  have b_n6 : n6 < 256 := by rw [← hn']; exact deB_u8 _
                                  have HI_s6 : Hid (RdInv s6.1 s6.2) := Lib.hid (by rw [← hs']; exact rds_inv HP11.out.inv.out)
                                  have hle' := HP11.out.len
                                  have HT := Lib.hid (mu8_any w13 p A9 c9 s5.1 s5.2 HP11.out.inv.out HP11.out.rd (by omega))
                                  rw [show deB (takeOut s5.1 s5.2 1) = n6 from hn', show takeLeft s5.1 s5.2 1 = s6.1 by rw [← hs']; rfl, show takeErr s5.1 s5.2 1 = s6.2 by rw [← hs']; rfl] at HT
                                  obtain ⟨ey, hex⟩ : ∃ ex, IntKind.i8.wrap (n6 : Int) = ex := ⟨_, rfl⟩
                                  have hex2 : wrap64 ey = ey := by rw [← hex]; exact wrap64_i8 _
                                  have heyb := i8_in (n6 : Int)
                                  rw [hex] at heyb
                                  obtain ⟨ou2, hout⟩ : ∃ o, rdt s6 (n5 : Int) = o := ⟨_, rfl⟩
                                  obtain ⟨s7, hs7⟩ : ∃ o, rds s6 (n5 : Int) = o := ⟨_, rfl⟩
                                  obtain ⟨ys, hys⟩ : ∃ o, i8s ou2 = o := ⟨_, rfl⟩
                                  have HTT : Hid (t = ⟨chk ⟨0, s7⟩ (mayB [(n5 : Int)] ey ys), ⟨dl, ex, xs, ml, [(n5 : Int)], ey, ys⟩⟩) := Lib.hid (by rw [HTT.out]; unfold decT; rw [HSN.out]; dsimp only; rw [hs', hn', hout, hs7, hys, hex])
                                  have HOUT2 := Lib.hid hout
                                  have HS7 := Lib.hid hs7
                                  have HYS := Lib.hid hys
                                  have hol2 : ou2.length ≤ 8192 := by
                                    have h2 := takeOut_len s6.1 s6.2 n5
                                    have h3 : ou2.length ≤ n5 := by rw [← hout]; exact h2
                                    omega
                                  have hyl : ys.length = ou2.length := by rw [← hys]; unfold i8s; rw [List.length_map]
                                  have HYB : Hid (∀ x ∈ ys, -128 ≤ x ∧ x ≤ 127) := Lib.hid (by rw [← hys]; exact i8s_in _)
                                  have HYL := Lib.hid hyl
                                  clear hout hs7 hys hyl
                                  have HEY := Lib.hid hex
                                  clear hex
                                  clear hs' hn' hle'
                                  go_wp2_with fail
                                  refine HT.out.mono ?_
                                  rintro en w14 ⟨rfl, B5, d5, hrd, hA, ho⟩
                                  have HP12 := Lib.hid (HP11.out.read (s' := s6) hrd HI_s6.out hA ho l_s6)
                                  clear hrd hA ho HT HP11
                                  have hkl := Lib.hid HP12.out.loc
                                  have ll := hkl.out.lt
                                  have m5 := hkl.out.cell 5
                                  simp only [List.getElem?_cons_zero, List.getElem?_cons_succ] at m5
                                  have f5 := hkl.out.free 5
                                  rw [← HEY.out] at hex2
                                  go_upto_region 43 with fail
                                  (try rw [HEY.out] at *)
                                  clear m5 f5 ll
                                  clear hkl
                                  have hk2 := HP12.out.loc.put 5 (.int .i64 ey)
                                  have hof : Off (fun i => i = l) w14 (w14.setCell ⟨l, 5, none⟩ (.int .i64 ey)) := (Off.refl (fun i => i = l) w14).setCell (p := ⟨l, 5, none⟩) (.inl rfl) _
                                  simp only [List.set_cons_succ, List.set_cons_zero] at hk2
                                  have hin := HP12.out.ins.off hof (fun g hg _ => by show ¬ g = _; omega) (fun g hg _ => hg)
                                  have HP13 := Lib.hid (HP12.out.turn hll hof hk2 hin)

                                  clear hk2 hof hin HP12
                                  generalize (w14.setCell ⟨l, 5, none⟩ (.int .i64 ey)) = w15 at *
                                  have l_s7 : s7.1.length ≤ s6.1.length := by rw [← HS7.out]; exact rds_len _ _
                                  have HI_s7 : Hid (RdInv s7.1 s7.2) := Lib.hid (by rw [← HS7.out]; exact rds_inv HP13.out.inv.out)
                                  have hle' := HP13.out.len
                                  have HT := Lib.hid (rtake_any w15 p B5 d5 s6.1 s6.2 (n5 : Int) HP13.out.inv.out HP13.out.rd (by omega))
                                  rw [show takeOut s6.1 s6.2 (n5 : Int) = ou2 from HOUT2.out, show takeLeft s6.1 s6.2 (n5 : Int) = s7.1 by rw [← HS7.out]; rfl, show takeErr s6.1 s6.2 (n5 : Int) = s7.2 by rw [← HS7.out]; rfl] at HT
                                  clear hle'
                                  go_wp2_with fail
                                  refine HT.out.mono ?_
                                  rintro en w16 ⟨Ao, co, B7, d7, rfl, howo, hrd, hA, ho⟩
                                  have HP14 := Lib.hid (HP13.out.read (s' := s7) hrd HI_s7.out hA ho l_s7)
                                  have HRO := Lib.hid (Reads.of_own howo)
                                  have hu14 := HP14.out.hU
                                  clear howo hrd hA ho HT HP13
                                  go_wp2_with fail
                                  refine (rsmalls_any ou2 _ w16 _ (Nat.le_refl _) HRO.out (by omega)).mono ?_
                                  rintro en w17 ⟨Ay, cy, rfl, howx, hb⟩
                                  rw [HYS.out] at howx ⊢
                                  have hb17 := hb.size
                                  have HP15 := Lib.hid ((HP14.out.below hb).more (U' := w17.heap.size) (by omega) (Nat.le_refl _))
                                  have HOX := Lib.hid howx
                                  clear howx hb HP14 HRO
                                  have hkl := Lib.hid HP15.out.loc
                                  have ll := hkl.out.lt
                                  have m6 := hkl.out.cell 6
                                  simp only [List.getElem?_cons_zero, List.getElem?_cons_succ] at m6
                                  have f6 := hkl.out.free 6
                                  go_upto_region 44 with fail
                                  clear m6 f6 ll
                                  clear hkl
                                  have hk2 := HP15.out.loc.put 6 (.slice Ay ys.length cy)
                                  have hof : Off (fun i => i = l) w17 (w17.setCell ⟨l, 6, none⟩ (.slice Ay ys.length cy)) := (Off.refl (fun i => i = l) w17).setCell (p := ⟨l, 6, none⟩) (.inl rfl) _
                                  simp only [List.set_cons_succ, List.set_cons_zero] at hk2
                                  have hin0 := HP15.out.ins.off hof (fun g hg _ => by show ¬ g = _; omega) (fun g hg _ => hg)
                                  have x7 := own_off HOX.out hof (fun k hk => by have := (HOX.out.lt k hk).1; show ¬ k = l; omega)
                                  have hz7 : (w17.setCell ⟨l, 6, none⟩ (.slice Ay ys.length cy)).heap.size = w17.heap.size := by simp
                                  have hin : ParV.In (fun g => l < g ∧ g < w17.heap.size) (w17.setCell ⟨l, 6, none⟩ (.slice Ay ys.length cy)) (⟨.slice Am j cm, .slice Ax xs.length cx, .slice Bm jj dm, .slice (some ⟨g5, 0, none⟩) 1 1, .slice Ay ys.length cy, ⟨dl, ex, xs, ml, [(n5 : Int)], ey, ys⟩⟩ : ParV) := ⟨hin0.wd, hin0.wx, hin0.m, hin0.bd, RowS.of_own x7 (fun k hk => by have := x7.lt k hk; omega), ⟨HDB, HXB, by dsimp only; omega, by dsimp only; omega, HMB, HN5, HYB, by dsimp only; omega, by dsimp only; omega, by unfold lenP; have := HDL.out; have := HML.out; have := HYL.out; simp only [List.length_nil, List.length_cons]; omega⟩⟩
                                  have HP16 := Lib.hid (HP15.out.turn hll hof hk2 hin)
                                  clear hin0 x7
                                  clear hk2 hof hin HP15
                                  generalize (w17.setCell ⟨l, 6, none⟩ (.slice Ay ys.length cy)) = w18 at *
                                  clear hu14 HOX
                                  have hke := Lib.hid HP16.out.rd.blk
                                  have le := hke.out.lt
                                  have e1 := hke.out.cell 1
                                  simp only [List.getElem?_cons_zero, List.getElem?_cons_succ] at e1
                                  clear hke
                                  by_cases he7 : s7.2 = 0
                                  · have te7 : (s7.2 != 0) = false := by simp [he7]
                                    have HE7 := Lib.hid he7
                                    clear he7
                                    have hkl := Lib.hid HP16.out.loc
                                    have ll := hkl.out.lt
                                    have m4 := hkl.out.cell 4
                                    have m5 := hkl.out.cell 5
                                    have m6 := hkl.out.cell 6
                                    simp only [List.getElem?_cons_zero, List.getElem?_cons_succ] at m4 m5 m6
                                    have HIS := Lib.hid HP16.out.ins.ok.b
                                    dsimp only at HIS
                                    go_wp2_with fail
                                    refine (mayt_any [(n5 : Int)] ey ys _ _ w18 w18.heap.size (Nat.le_refl _) HIS.out).mono ?_
                                    rintro en w19 ⟨rfl, hb⟩
                                    have HP17 := Lib.hid (HP16.out.below hb)
                                    clear hb HIS HP16 te7 e1 le hkl
                                    clear m4 m5 m6  ll
                                    obtain ⟨okb, hokb⟩ : ∃ okw, mayB [(n5 : Int)] ey ys = okw := ⟨_, rfl⟩
                                    rw [hokb] at HTT ⊢
                                    clear hokb
                                    cases okb with
                                    | false =>
                                      have HTT : Hid (t = ⟨⟨5, s7⟩, ⟨dl, ex, xs, ml, [(n5 : Int)], ey, ys⟩⟩) := Lib.hid (by rw [HTT.out, chk_bad HE7.out])
                                      have hkl := Lib.hid HP17.out.non
                                      have hkr := Lib.hid HP17.out.res
                                      have ll := hkl.out.lt
                                      have lr := hkr.out.lt
                                      have f0 := hkr.out.free 0
                                      have f1 := hkr.out.free 1
                                      have f2 := hkr.out.free 2
                                      have f3 := hkr.out.free 3
                                      have f4 := hkr.out.free 4
                                      have f5 := hkr.out.free 5
                                      have f6 := hkr.out.free 6
                                      unfold zcells at hkl
                                      unfold zcells at hkr
                                      have m0 := hkl.out.cell 0
                                      have m1 := hkl.out.cell 1
                                      have m2 := hkl.out.cell 2
                                      have m3 := hkl.out.cell 3
                                      have m4 := hkl.out.cell 4
                                      have m5 := hkl.out.cell 5
                                      have m6 := hkl.out.cell 6
                                      simp only [List.getElem?_cons_zero, List.getElem?_cons_succ] at m0 m1 m2 m3 m4 m5 m6
                                      have r0 := hkr.out.cell 0
                                      have r1 := hkr.out.cell 1
                                      have r2 := hkr.out.cell 2
                                      have r3 := hkr.out.cell 3
                                      have r4 := hkr.out.cell 4
                                      have r5 := hkr.out.cell 5
                                      have r6 := hkr.out.cell 6
                                      simp only [List.getElem?_cons_zero, List.getElem?_cons_succ] at r0 r1 r2 r3 r4 r5 r6
                                      go_wp2_with fail
                                      clear f0 f1 f2 f3 f4 f5 f6 m0 m1 m2 m3 m4 m5 m6 r0 r1 r2 r3 r4 r5 r6 hkl hkr
                                      have hq := HP17.out.fin (.slice none 0 0) (.int .i64 0) (.slice none 0 0) (.slice none 0 0) (.slice none 0 0) (.int .i64 0) (.slice none 0 0)
                                      unfold seven at hq
                                      generalize (((((((w19.setCell ⟨w.heap.size, 0, none⟩ (.slice none 0 0)).setCell ⟨w.heap.size, 1, none⟩ (.int .i64 0)).setCell ⟨w.heap.size, 2, none⟩ (.slice none 0 0)).setCell ⟨w.heap.size, 3, none⟩ (.slice none 0 0)).setCell ⟨w.heap.size, 4, none⟩ (.slice none 0 0)).setCell ⟨w.heap.size, 5, none⟩ (.int .i64 0)).setCell ⟨w.heap.size, 6, none⟩ (.slice none 0 0)) = W at hq ⊢
                                      obtain ⟨hqb, hqr, hqi, hqo⟩ := hq
                                      have hqb := Lib.hid hqb
                                      have p0 := hqb.out.cell 0
                                      have p1 := hqb.out.cell 1
                                      have p2 := hqb.out.cell 2
                                      have p3 := hqb.out.cell 3
                                      have p4 := hqb.out.cell 4
                                      have p5 := hqb.out.cell 5
                                      have p6 := hqb.out.cell 6
                                      simp only [List.getElem?_cons_zero, List.getElem?_cons_succ] at p0 p1 p2 p3 p4 p5 p6
                                      refine bodyPost_ret (v := .tuple #[.agg #[.slice none 0 0, .int .i64 0, .slice none 0 0, .slice none 0 0, .slice none 0 0, .int .i64 0, .slice none 0 0], .int .i64 5]) ?_ rfl ?_
                                      · simp [results, Try.results35, asAddr, Result.andThen, p0, p1, p2, p3, p4, p5, p6, go_sem]
                                      · rw [HTT.out]
                                        exact ⟨B7, d7, zeroV, s7, rfl, zeroV_in _ _, fun h => absurd h (by simp), hqr, HP17.out.inv.out, HP17.out.sa, hqo⟩
                                    | true =>
                                      have HTT : Hid (t = ⟨⟨0, s7⟩, ⟨dl, ex, xs, ml, [(n5 : Int)], ey, ys⟩⟩) := Lib.hid (by rw [HTT.out, chk_good HE7.out])
                                      have hkl := Lib.hid HP17.out.loc
                                      have hkr := Lib.hid HP17.out.res
                                      have ll := hkl.out.lt
                                      have lr := hkr.out.lt
                                      have f0 := hkr.out.free 0
                                      have f1 := hkr.out.free 1
                                      have f2 := hkr.out.free 2
                                      have f3 := hkr.out.free 3
                                      have f4 := hkr.out.free 4
                                      have f5 := hkr.out.free 5
                                      have f6 := hkr.out.free 6
                                      unfold zcells at hkr
                                      have m0 := hkl.out.cell 0
                                      have m1 := hkl.out.cell 1
                                      have m2 := hkl.out.cell 2
                                      have m3 := hkl.out.cell 3
                                      have m4 := hkl.out.cell 4
                                      have m5 := hkl.out.cell 5
                                      have m6 := hkl.out.cell 6
                                      simp only [List.getElem?_cons_zero, List.getElem?_cons_succ] at m0 m1 m2 m3 m4 m5 m6
                                      have r0 := hkr.out.cell 0
                                      have r1 := hkr.out.cell 1
                                      have r2 := hkr.out.cell 2
                                      have r3 := hkr.out.cell 3
                                      have r4 := hkr.out.cell 4
                                      have r5 := hkr.out.cell 5
                                      have r6 := hkr.out.cell 6
                                      simp only [List.getElem?_cons_zero, List.getElem?_cons_succ] at r0 r1 r2 r3 r4 r5 r6
                                      go_wp2_with fail
                                      clear f0 f1 f2 f3 f4 f5 f6 m0 m1 m2 m3 m4 m5 m6 r0 r1 r2 r3 r4 r5 r6 hkl hkr
                                      have hq := HP17.out.fin (.slice Am j cm) (.int .i64 ex) (.slice Ax xs.length cx) (.slice Bm jj dm) (.slice (some ⟨g5, 0, none⟩) 1 1) (.int .i64 ey) (.slice Ay ys.length cy)
                                      unfold seven at hq
                                      generalize (((((((w19.setCell ⟨w.heap.size, 0, none⟩ (.slice Am j cm)).setCell ⟨w.heap.size, 1, none⟩ (.int .i64 ex)).setCell ⟨w.heap.size, 2, none⟩ (.slice Ax xs.length cx)).setCell ⟨w.heap.size, 3, none⟩ (.slice Bm jj dm)).setCell ⟨w.heap.size, 4, none⟩ (.slice (some ⟨g5, 0, none⟩) 1 1)).setCell ⟨w.heap.size, 5, none⟩ (.int .i64 ey)).setCell ⟨w.heap.size, 6, none⟩ (.slice Ay ys.length cy)) = W at hq ⊢
                                      obtain ⟨hqb, hqr, hqi, hqo⟩ := hq
                                      have hqb := Lib.hid hqb
                                      have p0 := hqb.out.cell 0
                                      have p1 := hqb.out.cell 1
                                      have p2 := hqb.out.cell 2
                                      have p3 := hqb.out.cell 3
                                      have p4 := hqb.out.cell 4
                                      have p5 := hqb.out.cell 5
                                      have p6 := hqb.out.cell 6
                                      simp only [List.getElem?_cons_zero, List.getElem?_cons_succ] at p0 p1 p2 p3 p4 p5 p6
                                      refine bodyPost_ret (v := .tuple #[.agg #[.slice Am j cm, .int .i64 ex, .slice Ax xs.length cx, .slice Bm jj dm, .slice (some ⟨g5, 0, none⟩) 1 1, .int .i64 ey, .slice Ay ys.length cy], .int .i64 0]) ?_ rfl ?_
                                      · simp [results, Try.results35, asAddr, Result.andThen, p0, p1, p2, p3, p4, p5, p6, go_sem]
                                      · rw [HTT.out]
                                        exact ⟨B7, d7, ⟨.slice Am j cm, .slice Ax xs.length cx, .slice Bm jj dm, .slice (some ⟨g5, 0, none⟩) 1 1, .slice Ay ys.length cy, ⟨dl, ex, xs, ml, [(n5 : Int)], ey, ys⟩⟩, s7, rfl, hqi, fun _ => ⟨rfl, rfl⟩, hqr, HP17.out.inv.out, HP17.out.sa, hqo⟩
                                  · have te7 : (s7.2 != 0) = true := by simpa using he7
                                    have HTT : Hid (t = ⟨⟨4, s7⟩, ⟨dl, ex, xs, ml, [(n5 : Int)], ey, ys⟩⟩) := Lib.hid (by rw [HTT.out, chk_short HI_s7.out he7])
                                    clear he7
                                    have hkl := Lib.hid HP16.out.non
                                    have hkr := Lib.hid HP16.out.res
                                    have ll := hkl.out.lt
                                    have lr := hkr.out.lt
                                    have f0 := hkr.out.free 0
                                    have f1 := hkr.out.free 1
                                    have f2 := hkr.out.free 2
                                    have f3 := hkr.out.free 3
                                    have f4 := hkr.out.free 4
                                    have f5 := hkr.out.free 5
                                    have f6 := hkr.out.free 6
                                    unfold zcells at hkl
                                    unfold zcells at hkr
                                    have m0 := hkl.out.cell 0
                                    have m1 := hkl.out.cell 1
                                    have m2 := hkl.out.cell 2
                                    have m3 := hkl.out.cell 3
                                    have m4 := hkl.out.cell 4
                                    have m5 := hkl.out.cell 5
                                    have m6 := hkl.out.cell 6
                                    simp only [List.getElem?_cons_zero, List.getElem?_cons_succ] at m0 m1 m2 m3 m4 m5 m6
                                    have r0 := hkr.out.cell 0
                                    have r1 := hkr.out.cell 1
                                    have r2 := hkr.out.cell 2
                                    have r3 := hkr.out.cell 3
                                    have r4 := hkr.out.cell 4
                                    have r5 := hkr.out.cell 5
                                    have r6 := hkr.out.cell 6
                                    simp only [List.getElem?_cons_zero, List.getElem?_cons_succ] at r0 r1 r2 r3 r4 r5 r6
                                    go_wp2_with fail
                                    clear f0 f1 f2 f3 f4 f5 f6 m0 m1 m2 m3 m4 m5 m6 r0 r1 r2 r3 r4 r5 r6 hkl hkr
                                    have hq := HP16.out.fin (.slice none 0 0) (.int .i64 0) (.slice none 0 0) (.slice none 0 0) (.slice none 0 0) (.int .i64 0) (.slice none 0 0)
                                    unfold seven at hq
                                    generalize (((((((w18.setCell ⟨w.heap.size, 0, none⟩ (.slice none 0 0)).setCell ⟨w.heap.size, 1, none⟩ (.int .i64 0)).setCell ⟨w.heap.size, 2, none⟩ (.slice none 0 0)).setCell ⟨w.heap.size, 3, none⟩ (.slice none 0 0)).setCell ⟨w.heap.size, 4, none⟩ (.slice none 0 0)).setCell ⟨w.heap.size, 5, none⟩ (.int .i64 0)).setCell ⟨w.heap.size, 6, none⟩ (.slice none 0 0)) = W at hq ⊢
                                    obtain ⟨hqb, hqr, hqi, hqo⟩ := hq
                                    have hqb := Lib.hid hqb
                                    have p0 := hqb.out.cell 0
                                    have p1 := hqb.out.cell 1
                                    have p2 := hqb.out.cell 2
                                    have p3 := hqb.out.cell 3
                                    have p4 := hqb.out.cell 4
                                    have p5 := hqb.out.cell 5
                                    have p6 := hqb.out.cell 6
                                    simp only [List.getElem?_cons_zero, List.getElem?_cons_succ] at p0 p1 p2 p3 p4 p5 p6
                                    refine bodyPost_ret (v := .tuple #[.agg #[.slice none 0 0, .int .i64 0, .slice none 0 0, .slice none 0 0, .slice none 0 0, .int .i64 0, .slice none 0 0], .int .i64 4]) ?_ rfl ?_
                                    · simp [results, Try.results35, asAddr, Result.andThen, p0, p1, p2, p3, p4, p5, p6, go_sem]
                                    · rw [HTT.out]
                                      exact ⟨B7, d7, zeroV, s7, rfl, zeroV_in _ _, fun h => absurd h (by simp), hqr, HP16.out.inv.out, HP16.out.sa, hqo⟩
                                · have tsz : decide (0 < sizeI [(n5 : Int)]) = false := decide_eq_false hsy
                                  rw [tsz]
                                  have HTT : Hid (t = ⟨⟨5, s5⟩, zeroC⟩) := Lib.hid (by rw [HTT.out, tsz, chk_bad HE6.out]; unfold decP6; rw [if_pos (by simp)])
                                  clear tsz hsy
                                  have hkl := Lib.hid HP11.out.non
                                  have hkr := Lib.hid HP11.out.res
                                  have ll := hkl.out.lt
                                  have lr := hkr.out.lt
                                  have f0 := hkr.out.free 0
                                  have f1 := hkr.out.free 1
                                  have f2 := hkr.out.free 2
                                  have f3 := hkr.out.free 3
                                  have f4 := hkr.out.free 4
                                  have f5 := hkr.out.free 5
                                  have f6 := hkr.out.free 6
                                  unfold zcells at hkl
                                  unfold zcells at hkr
                                  have m0 := hkl.out.cell 0
                                  have m1 := hkl.out.cell 1
                                  have m2 := hkl.out.cell 2
                                  have m3 := hkl.out.cell 3
                                  have m4 := hkl.out.cell 4
                                  have m5 := hkl.out.cell 5
                                  have m6 := hkl.out.cell 6
                                  simp only [List.getElem?_cons_zero, List.getElem?_cons_succ] at m0 m1 m2 m3 m4 m5 m6
                                  have r0 := hkr.out.cell 0
                                  have r1 := hkr.out.cell 1
                                  have r2 := hkr.out.cell 2
                                  have r3 := hkr.out.cell 3
                                  have r4 := hkr.out.cell 4
                                  have r5 := hkr.out.cell 5
                                  have r6 := hkr.out.cell 6
                                  simp only [List.getElem?_cons_zero, List.getElem?_cons_succ] at r0 r1 r2 r3 r4 r5 r6
                                  go_wp2_with fail
                                  clear f0 f1 f2 f3 f4 f5 f6 m0 m1 m2 m3 m4 m5 m6 r0 r1 r2 r3 r4 r5 r6 hkl hkr
                                  have hq := HP11.out.fin (.slice none 0 0) (.int .i64 0) (.slice none 0 0) (.slice none 0 0) (.slice none 0 0) (.int .i64 0) (.slice none 0 0)
                                  unfold seven at hq
                                  generalize (((((((w13.setCell ⟨w.heap.size, 0, none⟩ (.slice none 0 0)).setCell ⟨w.heap.size, 1, none⟩ (.int .i64 0)).setCell ⟨w.heap.size, 2, none⟩ (.slice none 0 0)).setCell ⟨w.heap.size, 3, none⟩ (.slice none 0 0)).setCell ⟨w.heap.size, 4, none⟩ (.slice none 0 0)).setCell ⟨w.heap.size, 5, none⟩ (.int .i64 0)).setCell ⟨w.heap.size, 6, none⟩ (.slice none 0 0)) = W at hq ⊢
                                  obtain ⟨hqb, hqr, hqi, hqo⟩ := hq
                                  have hqb := Lib.hid hqb
                                  have p0 := hqb.out.cell 0
                                  have p1 := hqb.out.cell 1
                                  have p2 := hqb.out.cell 2
                                  have p3 := hqb.out.cell 3
                                  have p4 := hqb.out.cell 4
                                  have p5 := hqb.out.cell 5
                                  have p6 := hqb.out.cell 6
                                  simp only [List.getElem?_cons_zero, List.getElem?_cons_succ] at p0 p1 p2 p3 p4 p5 p6
                                  refine bodyPost_ret (v := .tuple #[.agg #[.slice none 0 0, .int .i64 0, .slice none 0 0, .slice none 0 0, .slice none 0 0, .int .i64 0, .slice none 0 0], .int .i64 5]) ?_ rfl ?_
                                  · simp [results, Try.results35, asAddr, Result.andThen, p0, p1, p2, p3, p4, p5, p6, go_sem]
                                  · rw [HTT.out]
                                    exact ⟨A9, c9, zeroV, s5, rfl, zeroV_in _ _, fun h => absurd h (by simp), hqr, HP11.out.inv.out, HP11.out.sa, hqo⟩
                              · have te6 : (s5.2 != 0) = true := by simpa using he6
                                have HTT : Hid (t = ⟨⟨4, s5⟩, zeroC⟩) := Lib.hid (by rw [HTT.out, chk_short HI_s5.out he6]; unfold decP6; rw [if_pos (by simp)])
                                clear he6
                                have hkl := Lib.hid HP10.out.non
                                have hkr := Lib.hid HP10.out.res
                                have ll := hkl.out.lt
                                have lr := hkr.out.lt
                                have f0 := hkr.out.free 0
                                have f1 := hkr.out.free 1
                                have f2 := hkr.out.free 2
                                have f3 := hkr.out.free 3
                                have f4 := hkr.out.free 4
                                have f5 := hkr.out.free 5
                                have f6 := hkr.out.free 6
                                unfold zcells at hkl
                                unfold zcells at hkr
                                have m0 := hkl.out.cell 0
                                have m1 := hkl.out.cell 1
                                have m2 := hkl.out.cell 2
                                have m3 := hkl.out.cell 3
                                have m4 := hkl.out.cell 4
                                have m5 := hkl.out.cell 5
                                have m6 := hkl.out.cell 6
                                simp only [List.getElem?_cons_zero, List.getElem?_cons_succ] at m0 m1 m2 m3 m4 m5 m6
                                have r0 := hkr.out.cell 0
                                have r1 := hkr.out.cell 1
                                have r2 := hkr.out.cell 2
                                have r3 := hkr.out.cell 3
                                have r4 := hkr.out.cell 4
                                have r5 := hkr.out.cell 5
                                have r6 := hkr.out.cell 6
                                simp only [List.getElem?_cons_zero, List.getElem?_cons_succ] at r0 r1 r2 r3 r4 r5 r6
                                go_wp2_with fail
                                clear f0 f1 f2 f3 f4 f5 f6 m0 m1 m2 m3 m4 m5 m6 r0 r1 r2 r3 r4 r5 r6 hkl hkr
                                have hq := HP10.out.fin (.slice none 0 0) (.int .i64 0) (.slice none 0 0) (.slice none 0 0) (.slice none 0 0) (.int .i64 0) (.slice none 0 0)
                                unfold seven at hq
                                generalize (((((((w11.setCell ⟨w.heap.size, 0, none⟩ (.slice none 0 0)).setCell ⟨w.heap.size, 1, none⟩ (.int .i64 0)).setCell ⟨w.heap.size, 2, none⟩ (.slice none 0 0)).setCell ⟨w.heap.size, 3, none⟩ (.slice none 0 0)).setCell ⟨w.heap.size, 4, none⟩ (.slice none 0 0)).setCell ⟨w.heap.size, 5, none⟩ (.int .i64 0)).setCell ⟨w.heap.size, 6, none⟩ (.slice none 0 0)) = W at hq ⊢
                                obtain ⟨hqb, hqr, hqi, hqo⟩ := hq
                                have hqb := Lib.hid hqb
                                have p0 := hqb.out.cell 0
                                have p1 := hqb.out.cell 1
                                have p2 := hqb.out.cell 2
                                have p3 := hqb.out.cell 3
                                have p4 := hqb.out.cell 4
                                have p5 := hqb.out.cell 5
                                have p6 := hqb.out.cell 6
                                simp only [List.getElem?_cons_zero, List.getElem?_cons_succ] at p0 p1 p2 p3 p4 p5 p6
                                refine bodyPost_ret (v := .tuple #[.agg #[.slice none 0 0, .int .i64 0, .slice none 0 0, .slice none 0 0, .slice none 0 0, .int .i64 0, .slice none 0 0], .int .i64 4]) ?_ rfl ?_
                                · simp [results, Try.results35, asAddr, Result.andThen, p0, p1, p2, p3, p4, p5, p6, go_sem]
                                · rw [HTT.out]
                                  exact ⟨A9, c9, zeroV, s5, rfl, zeroV_in _ _, fun h => absurd h (by simp), hqr, HP10.out.inv.out, HP10.out.sa, hqo⟩
                        · have te5 : (r4.2 != 0) = true := by simpa using he5
                          have HTT : Hid (t = ⟨⟨4, r4⟩, zeroC⟩) := Lib.hid (by rw [HTT.out, chk_short HIR4.out he5]; unfold decP5; rw [if_pos (by simp)])
                          clear he5
                          have hkl := Lib.hid HP9.out.non
                          have hkr := Lib.hid HP9.out.res
                          have ll := hkl.out.lt
                          have lr := hkr.out.lt
                          have f0 := hkr.out.free 0
                          have f1 := hkr.out.free 1
                          have f2 := hkr.out.free 2
                          have f3 := hkr.out.free 3
                          have f4 := hkr.out.free 4
                          have f5 := hkr.out.free 5
                          have f6 := hkr.out.free 6
                          unfold zcells at hkl
                          unfold zcells at hkr
                          have m0 := hkl.out.cell 0
                          have m1 := hkl.out.cell 1
                          have m2 := hkl.out.cell 2
                          have m3 := hkl.out.cell 3
                          have m4 := hkl.out.cell 4
                          have m5 := hkl.out.cell 5
                          have m6 := hkl.out.cell 6
                          simp only [List.getElem?_cons_zero, List.getElem?_cons_succ] at m0 m1 m2 m3 m4 m5 m6
                          have r0 := hkr.out.cell 0
                          have r1 := hkr.out.cell 1
                          have r2 := hkr.out.cell 2
                          have r3 := hkr.out.cell 3
                          have r4 := hkr.out.cell 4
                          have r5 := hkr.out.cell 5
                          have r6 := hkr.out.cell 6
                          simp only [List.getElem?_cons_zero, List.getElem?_cons_succ] at r0 r1 r2 r3 r4 r5 r6
                          go_wp2_with fail
                          clear f0 f1 f2 f3 f4 f5 f6 m0 m1 m2 m3 m4 m5 m6 r0 r1 r2 r3 r4 r5 r6 hkl hkr
                          have hq := HP9.out.fin (.slice none 0 0) (.int .i64 0) (.slice none 0 0) (.slice none 0 0) (.slice none 0 0) (.int .i64 0) (.slice none 0 0)
                          unfold seven at hq
                          generalize (((((((wr.setCell ⟨w.heap.size, 0, none⟩ (.slice none 0 0)).setCell ⟨w.heap.size, 1, none⟩ (.int .i64 0)).setCell ⟨w.heap.size, 2, none⟩ (.slice none 0 0)).setCell ⟨w.heap.size, 3, none⟩ (.slice none 0 0)).setCell ⟨w.heap.size, 4, none⟩ (.slice none 0 0)).setCell ⟨w.heap.size, 5, none⟩ (.int .i64 0)).setCell ⟨w.heap.size, 6, none⟩ (.slice none 0 0)) = W at hq ⊢
                          obtain ⟨hqb, hqr, hqi, hqo⟩ := hq
                          have hqb := Lib.hid hqb
                          have p0 := hqb.out.cell 0
                          have p1 := hqb.out.cell 1
                          have p2 := hqb.out.cell 2
                          have p3 := hqb.out.cell 3
                          have p4 := hqb.out.cell 4
                          have p5 := hqb.out.cell 5
                          have p6 := hqb.out.cell 6
                          simp only [List.getElem?_cons_zero, List.getElem?_cons_succ] at p0 p1 p2 p3 p4 p5 p6
                          refine bodyPost_ret (v := .tuple #[.agg #[.slice none 0 0, .int .i64 0, .slice none 0 0, .slice none 0 0, .slice none 0 0, .int .i64 0, .slice none 0 0], .int .i64 4]) ?_ rfl ?_
                          · simp [results, Try.results35, asAddr, Result.andThen, p0, p1, p2, p3, p4, p5, p6, go_sem]
                          · rw [HTT.out]
                            exact ⟨A', c', zeroV, r4, rfl, zeroV_in _ _, fun h => absurd h (by simp), hqr, HP9.out.inv.out, HP9.out.sa, hqo⟩
                · have te4 : (s4.2 != 0) = true := by simpa using he4
                  have HTT : Hid (t = ⟨⟨4, s4⟩, zeroC⟩) := Lib.hid (by rw [HTT.out, chk_short HI_s4.out he4]; unfold decP4; rw [if_pos (by simp)])
                  clear he4
                  have hkl := Lib.hid HP6.out.non
                  have hkr := Lib.hid HP6.out.res
                  have ll := hkl.out.lt
                  have lr := hkr.out.lt
                  have f0 := hkr.out.free 0
                  have f1 := hkr.out.free 1
                  have f2 := hkr.out.free 2
                  have f3 := hkr.out.free 3
                  have f4 := hkr.out.free 4
                  have f5 := hkr.out.free 5
                  have f6 := hkr.out.free 6
                  unfold zcells at hkl
                  unfold zcells at hkr
                  have m0 := hkl.out.cell 0
                  have m1 := hkl.out.cell 1
                  have m2 := hkl.out.cell 2
                  have m3 := hkl.out.cell 3
                  have m4 := hkl.out.cell 4
                  have m5 := hkl.out.cell 5
                  have m6 := hkl.out.cell 6
                  simp only [List.getElem?_cons_zero, List.getElem?_cons_succ] at m0 m1 m2 m3 m4 m5 m6
                  have r0 := hkr.out.cell 0
                  have r1 := hkr.out.cell 1
                  have r2 := hkr.out.cell 2
                  have r3 := hkr.out.cell 3
                  have r4 := hkr.out.cell 4
                  have r5 := hkr.out.cell 5
                  have r6 := hkr.out.cell 6
                  simp only [List.getElem?_cons_zero, List.getElem?_cons_succ] at r0 r1 r2 r3 r4 r5 r6
                  go_wp2_with fail
                  clear f0 f1 f2 f3 f4 f5 f6 m0 m1 m2 m3 m4 m5 m6 r0 r1 r2 r3 r4 r5 r6 hkl hkr
                  have hq := HP6.out.fin (.slice none 0 0) (.int .i64 0) (.slice none 0 0) (.slice none 0 0) (.slice none 0 0) (.int .i64 0) (.slice none 0 0)
                  unfold seven at hq
                  generalize (((((((w9.setCell ⟨w.heap.size, 0, none⟩ (.slice none 0 0)).setCell ⟨w.heap.size, 1, none⟩ (.int .i64 0)).setCell ⟨w.heap.size, 2, none⟩ (.slice none 0 0)).setCell ⟨w.heap.size, 3, none⟩ (.slice none 0 0)).setCell ⟨w.heap.size, 4, none⟩ (.slice none 0 0)).setCell ⟨w.heap.size, 5, none⟩ (.int .i64 0)).setCell ⟨w.heap.size, 6, none⟩ (.slice none 0 0)) = W at hq ⊢
                  obtain ⟨hqb, hqr, hqi, hqo⟩ := hq
                  have hqb := Lib.hid hqb
                  have p0 := hqb.out.cell 0
                  have p1 := hqb.out.cell 1
                  have p2 := hqb.out.cell 2
                  have p3 := hqb.out.cell 3
                  have p4 := hqb.out.cell 4
                  have p5 := hqb.out.cell 5
                  have p6 := hqb.out.cell 6
                  simp only [List.getElem?_cons_zero, List.getElem?_cons_succ] at p0 p1 p2 p3 p4 p5 p6
                  refine bodyPost_ret (v := .tuple #[.agg #[.slice none 0 0, .int .i64 0, .slice none 0 0, .slice none 0 0, .slice none 0 0, .int .i64 0, .slice none 0 0], .int .i64 4]) ?_ rfl ?_
                  · simp [results, Try.results35, asAddr, Result.andThen, p0, p1, p2, p3, p4, p5, p6, go_sem]
                  · rw [HTT.out]
                    exact ⟨A7, c7, zeroV, s4, rfl, zeroV_in _ _, fun h => absurd h (by simp), hqr, HP6.out.inv.out, HP6.out.sa, hqo⟩
              · have tsz : decide (0 < sizeI dl) = false := decide_eq_false hsz
                rw [tsz]
                have HTT : Hid (t = ⟨⟨5, r2⟩, zeroC⟩) := Lib.hid (by rw [HTT.out, tsz, chk_bad HE2.out]; unfold decP3; rw [if_pos (by simp)])
                clear tsz hsz
                have hkl := Lib.hid HP1.out.non
                have hkr := Lib.hid HP1.out.res
                have ll := hkl.out.lt
                have lr := hkr.out.lt
                have f0 := hkr.out.free 0
                have f1 := hkr.out.free 1
                have f2 := hkr.out.free 2
                have f3 := hkr.out.free 3
                have f4 := hkr.out.free 4
                have f5 := hkr.out.free 5
                have f6 := hkr.out.free 6
                unfold zcells at hkl
                unfold zcells at hkr
                have m0 := hkl.out.cell 0
                have m1 := hkl.out.cell 1
                have m2 := hkl.out.cell 2
                have m3 := hkl.out.cell 3
                have m4 := hkl.out.cell 4
                have m5 := hkl.out.cell 5
                have m6 := hkl.out.cell 6
                simp only [List.getElem?_cons_zero, List.getElem?_cons_succ] at m0 m1 m2 m3 m4 m5 m6
                have r0 := hkr.out.cell 0
                have r1 := hkr.out.cell 1
                have r2 := hkr.out.cell 2
                have r3 := hkr.out.cell 3
                have r4 := hkr.out.cell 4
                have r5 := hkr.out.cell 5
                have r6 := hkr.out.cell 6
                simp only [List.getElem?_cons_zero, List.getElem?_cons_succ] at r0 r1 r2 r3 r4 r5 r6
                go_wp2_with fail
                clear f0 f1 f2 f3 f4 f5 f6 m0 m1 m2 m3 m4 m5 m6 r0 r1 r2 r3 r4 r5 r6 hkl hkr
                have hq := HP1.out.fin (.slice none 0 0) (.int .i64 0) (.slice none 0 0) (.slice none 0 0) (.slice none 0 0) (.int .i64 0) (.slice none 0 0)
                unfold seven at hq
                generalize (((((((wr.setCell ⟨w.heap.size, 0, none⟩ (.slice none 0 0)).setCell ⟨w.heap.size, 1, none⟩ (.int .i64 0)).setCell ⟨w.heap.size, 2, none⟩ (.slice none 0 0)).setCell ⟨w.heap.size, 3, none⟩ (.slice none 0 0)).setCell ⟨w.heap.size, 4, none⟩ (.slice none 0 0)).setCell ⟨w.heap.size, 5, none⟩ (.int .i64 0)).setCell ⟨w.heap.size, 6, none⟩ (.slice none 0 0)) = W at hq ⊢
                obtain ⟨hqb, hqr, hqi, hqo⟩ := hq
                have hqb := Lib.hid hqb
                have p0 := hqb.out.cell 0
                have p1 := hqb.out.cell 1
                have p2 := hqb.out.cell 2
                have p3 := hqb.out.cell 3
                have p4 := hqb.out.cell 4
                have p5 := hqb.out.cell 5
                have p6 := hqb.out.cell 6
                simp only [List.getElem?_cons_zero, List.getElem?_cons_succ] at p0 p1 p2 p3 p4 p5 p6
                refine bodyPost_ret (v := .tuple #[.agg #[.slice none 0 0, .int .i64 0, .slice none 0 0, .slice none 0 0, .slice none 0 0, .int .i64 0, .slice none 0 0], .int .i64 5]) ?_ rfl ?_
                · simp [results, Try.results35, asAddr, Result.andThen, p0, p1, p2, p3, p4, p5, p6, go_sem]
                · rw [HTT.out]
                  exact ⟨A', c', zeroV, r2, rfl, zeroV_in _ _, fun h => absurd h (by simp), hqr, HP1.out.inv.out, HP1.out.sa, hqo⟩
            · have te2 : (r2.2 != 0) = true := by simpa using he2
              have HTT : Hid (t = ⟨⟨4, r2⟩, zeroC⟩) := Lib.hid (by rw [HTT.out, chk_short HIR.out he2]; unfold decP3; rw [if_pos (by simp)])
              clear he2
              have hkl := Lib.hid HP1.out.non
              have hkr := Lib.hid HP1.out.res
              have ll := hkl.out.lt
              have lr := hkr.out.lt
              have f0 := hkr.out.free 0
              have f1 := hkr.out.free 1
              have f2 := hkr.out.free 2
              have f3 := hkr.out.free 3
              have f4 := hkr.out.free 4
              have f5 := hkr.out.free 5
              have f6 := hkr.out.free 6
              unfold zcells at hkl
              unfold zcells at hkr
              have m0 := hkl.out.cell 0
              have m1 := hkl.out.cell 1
              have m2 := hkl.out.cell 2
              have m3 := hkl.out.cell 3
              have m4 := hkl.out.cell 4
              have m5 := hkl.out.cell 5
              have m6 := hkl.out.cell 6
              simp only [List.getElem?_cons_zero, List.getElem?_cons_succ] at m0 m1 m2 m3 m4 m5 m6
              have r0 := hkr.out.cell 0
              have r1 := hkr.out.cell 1
              have r2 := hkr.out.cell 2
              have r3 := hkr.out.cell 3
              have r4 := hkr.out.cell 4
              have r5 := hkr.out.cell 5
              have r6 := hkr.out.cell 6
              simp only [List.getElem?_cons_zero, List.getElem?_cons_succ] at r0 r1 r2 r3 r4 r5 r6
              go_wp2_with fail
              clear f0 f1 f2 f3 f4 f5 f6 m0 m1 m2 m3 m4 m5 m6 r0 r1 r2 r3 r4 r5 r6 hkl hkr
              have hq := HP1.out.fin (.slice none 0 0) (.int .i64 0) (.slice none 0 0) (.slice none 0 0) (.slice none 0 0) (.int .i64 0) (.slice none 0 0)
              unfold seven at hq
              generalize (((((((wr.setCell ⟨w.heap.size, 0, none⟩ (.slice none 0 0)).setCell ⟨w.heap.size, 1, none⟩ (.int .i64 0)).setCell ⟨w.heap.size, 2, none⟩ (.slice none 0 0)).setCell ⟨w.heap.size, 3, none⟩ (.slice none 0 0)).setCell ⟨w.heap.size, 4, none⟩ (.slice none 0 0)).setCell ⟨w.heap.size, 5, none⟩ (.int .i64 0)).setCell ⟨w.heap.size, 6, none⟩ (.slice none 0 0)) = W at hq ⊢
              obtain ⟨hqb, hqr, hqi, hqo⟩ := hq
              have hqb := Lib.hid hqb
              have p0 := hqb.out.cell 0
              have p1 := hqb.out.cell 1
              have p2 := hqb.out.cell 2
              have p3 := hqb.out.cell 3
              have p4 := hqb.out.cell 4
              have p5 := hqb.out.cell 5
              have p6 := hqb.out.cell 6
              simp only [List.getElem?_cons_zero, List.getElem?_cons_succ] at p0 p1 p2 p3 p4 p5 p6
              refine bodyPost_ret (v := .tuple #[.agg #[.slice none 0 0, .int .i64 0, .slice none 0 0, .slice none 0 0, .slice none 0 0, .int .i64 0, .slice none 0 0], .int .i64 4]) ?_ rfl ?_
              · simp [results, Try.results35, asAddr, Result.andThen, p0, p1, p2, p3, p4, p5, p6, go_sem]
              · rw [HTT.out]
                exact ⟨A', c', zeroV, r2, rfl, zeroV_in _ _, fun h => absurd h (by simp), hqr, HP1.out.inv.out, HP1.out.sa, hqo⟩
      · have t4 : decide ((4 : Int) < (n1 : Int)) = true := decide_eq_true (by omega)
        have HTT : Hid (t = ⟨⟨5, s1⟩, zeroC⟩) := Lib.hid (by rw [HTT.out, decide_eq_false hn4, chk_bad HE1.out]; unfold decP2; rw [if_pos (.inl (by simp))])
        clear hn4 hn0
        have hkl := Lib.hid HS2.out.non
        have hkr := Lib.hid HS2.out.res
        have ll := hkl.out.lt
        have lr := hkr.out.lt
        have f0 := hkr.out.free 0
        have f1 := hkr.out.free 1
        have f2 := hkr.out.free 2
        have f3 := hkr.out.free 3
        have f4 := hkr.out.free 4
        have f5 := hkr.out.free 5
        have f6 := hkr.out.free 6
        unfold zcells at hkl
        unfold zcells at hkr
        have m0 := hkl.out.cell 0
        have m1 := hkl.out.cell 1
        have m2 := hkl.out.cell 2
        have m3 := hkl.out.cell 3
        have m4 := hkl.out.cell 4
        have m5 := hkl.out.cell 5
        have m6 := hkl.out.cell 6
        simp only [List.getElem?_cons_zero, List.getElem?_cons_succ] at m0 m1 m2 m3 m4 m5 m6
        have r0 := hkr.out.cell 0
        have r1 := hkr.out.cell 1
        have r2 := hkr.out.cell 2
        have r3 := hkr.out.cell 3
        have r4 := hkr.out.cell 4
        have r5 := hkr.out.cell 5
        have r6 := hkr.out.cell 6
        simp only [List.getElem?_cons_zero, List.getElem?_cons_succ] at r0 r1 r2 r3 r4 r5 r6
        go_wp2_with fail
        clear f0 f1 f2 f3 f4 f5 f6 m0 m1 m2 m3 m4 m5 m6 r0 r1 r2 r3 r4 r5 r6 hkl hkr
        have hq := HS2.out.fin (.slice none 0 0) (.int .i64 0) (.slice none 0 0) (.slice none 0 0) (.slice none 0 0) (.int .i64 0) (.slice none 0 0)
        unfold seven at hq
        generalize (((((((w2.setCell ⟨w.heap.size, 0, none⟩ (.slice none 0 0)).setCell ⟨w.heap.size, 1, none⟩ (.int .i64 0)).setCell ⟨w.heap.size, 2, none⟩ (.slice none 0 0)).setCell ⟨w.heap.size, 3, none⟩ (.slice none 0 0)).setCell ⟨w.heap.size, 4, none⟩ (.slice none 0 0)).setCell ⟨w.heap.size, 5, none⟩ (.int .i64 0)).setCell ⟨w.heap.size, 6, none⟩ (.slice none 0 0)) = W at hq ⊢
        obtain ⟨hqb, hqr, hqi, hqo⟩ := hq
        have hqb := Lib.hid hqb
        have p0 := hqb.out.cell 0
        have p1 := hqb.out.cell 1
        have p2 := hqb.out.cell 2
        have p3 := hqb.out.cell 3
        have p4 := hqb.out.cell 4
        have p5 := hqb.out.cell 5
        have p6 := hqb.out.cell 6
        simp only [List.getElem?_cons_zero, List.getElem?_cons_succ] at p0 p1 p2 p3 p4 p5 p6
        refine bodyPost_ret (v := .tuple #[.agg #[.slice none 0 0, .int .i64 0, .slice none 0 0, .slice none 0 0, .slice none 0 0, .int .i64 0, .slice none 0 0], .int .i64 5]) ?_ rfl ?_
        · simp [results, Try.results35, asAddr, Result.andThen, p0, p1, p2, p3, p4, p5, p6, go_sem]
        · rw [HTT.out]
          exact ⟨A2, c2, zeroV, s1, rfl, zeroV_in _ _, fun h => absurd h (by simp), hqr, HS2.out.inv.out, HS2.out.sa, hqo⟩
  · have te1 : (s1.2 != 0) = true := by simpa using he1
    have HTT : Hid (t = ⟨⟨4, s1⟩, zeroC⟩) := Lib.hid (by rw [HTT.out, chk_short HI1.out he1]; unfold decP2; rw [if_pos (.inl (by simp))])
    clear he1
    have hkl := Lib.hid HS2.out.non
    have hkr := Lib.hid HS2.out.res
    have ll := hkl.out.lt
    have lr := hkr.out.lt
    have f0 := hkr.out.free 0
    have f1 := hkr.out.free 1
    have f2 := hkr.out.free 2
    have f3 := hkr.out.free 3
    have f4 := hkr.out.free 4
    have f5 := hkr.out.free 5
    have f6 := hkr.out.free 6
    unfold zcells at hkl
    unfold zcells at hkr
    have m0 := hkl.out.cell 0
    have m1 := hkl.out.cell 1
    have m2 := hkl.out.cell 2
    have m3 := hkl.out.cell 3
    have m4 := hkl.out.cell 4
    have m5 := hkl.out.cell 5
    have m6 := hkl.out.cell 6
    simp only [List.getElem?_cons_zero, List.getElem?_cons_succ] at m0 m1 m2 m3 m4 m5 m6
    have r0 := hkr.out.cell 0
    have r1 := hkr.out.cell 1
    have r2 := hkr.out.cell 2
    have r3 := hkr.out.cell 3
    have r4 := hkr.out.cell 4
    have r5 := hkr.out.cell 5
    have r6 := hkr.out.cell 6
    simp only [List.getElem?_cons_zero, List.getElem?_cons_succ] at r0 r1 r2 r3 r4 r5 r6
    go_wp2_with fail
    clear f0 f1 f2 f3 f4 f5 f6 m0 m1 m2 m3 m4 m5 m6 r0 r1 r2 r3 r4 r5 r6 hkl hkr
    have hq := HS2.out.fin (.slice none 0 0) (.int .i64 0) (.slice none 0 0) (.slice none 0 0) (.slice none 0 0) (.int .i64 0) (.slice none 0 0)
    unfold seven at hq
    generalize (((((((w2.setCell ⟨w.heap.size, 0, none⟩ (.slice none 0 0)).setCell ⟨w.heap.size, 1, none⟩ (.int .i64 0)).setCell ⟨w.heap.size, 2, none⟩ (.slice none 0 0)).setCell ⟨w.heap.size, 3, none⟩ (.slice none 0 0)).setCell ⟨w.heap.size, 4, none⟩ (.slice none 0 0)).setCell ⟨w.heap.size, 5, none⟩ (.int .i64 0)).setCell ⟨w.heap.size, 6, none⟩ (.slice none 0 0)) = W at hq ⊢
    obtain ⟨hqb, hqr, hqi, hqo⟩ := hq
    have hqb := Lib.hid hqb
    have p0 := hqb.out.cell 0
    have p1 := hqb.out.cell 1
    have p2 := hqb.out.cell 2
    have p3 := hqb.out.cell 3
    have p4 := hqb.out.cell 4
    have p5 := hqb.out.cell 5
    have p6 := hqb.out.cell 6
    simp only [List.getElem?_cons_zero, List.getElem?_cons_succ] at p0 p1 p2 p3 p4 p5 p6
    refine bodyPost_ret (v := .tuple #[.agg #[.slice none 0 0, .int .i64 0, .slice none 0 0, .slice none 0 0, .slice none 0 0, .int .i64 0, .slice none 0 0], .int .i64 4]) ?_ rfl ?_
    · simp [results, Try.results35, asAddr, Result.andThen, p0, p1, p2, p3, p4, p5, p6, go_sem]
    · rw [HTT.out]
      exact ⟨A2, c2, zeroV, s1, rfl, zeroV_in _ _, fun h => absurd h (by simp), hqr, HS2.out.inv.out, HS2.out.sa, hqo⟩
end Go.Proofs.Ytcjpibdgnjncmaa
