/- Contract of the reference's Shapes. -/
import Derived.Test.YtkileiikffomlaaNetShapes
import Derived.Test.YtkileiikffomlaaNetRMay
import Derived.Test.YtkileiikffomlaaNetRAfter
import Derived.Test.YtkileiikffomlaaNetRDims
namespace Go.Proofs.Ytkileiikffomlaa
open Go.RowKit
set_option linter.unusedVariables false
set_option linter.unusedSimpArgs false

def AftIs (w w' : World) (A : Option Addr) (n c : Nat) (b : Bool) : Option (List Int) → Prop
  | none => b = false
  | some e => b = true ∧ n = e.length ∧ ∃ g, A = some ⟨g, 0, none⟩ ∧ w'.ownsRow w.heap.size 3 1 (.slice (some ⟨g, 0, none⟩) e.length c) e.length (ints .i64 e)
theorem aft_form {w w' : World} {o : Option (List Int)} {en : Ending} (h : Aft w o en w') : ∃ A n c b, en = .returned (.tuple #[.slice A n c, .bool b]) ∧ Below w.heap.size w w' ∧ Hid (AftIs w w' A n c b o) := by
  cases o with
  | none => obtain ⟨A, n, c, h1, h2⟩ := h; exact ⟨A, n, c, false, h1, h2, Lib.hid rfl⟩
  | some e => obtain ⟨g, c, h1, h2, h3⟩ := h; exact ⟨_, _, c, true, h1, h3, Lib.hid ⟨rfl, rfl, g, rfl, h2⟩⟩
theorem RowIn.of_blk {S : Nat → Prop} {w : World} {g n : Nat} {xs : List Int} (h : Blk w g 3 (ints .i64 xs)) (hn : xs.length = n) (hm : n ≤ maxLen) (hS : S g) : RowIn S w (.slice (some ⟨g, 0, none⟩) n n) xs := by
  subst hn
  exact ⟨_, _, _, rfl, rfl, Nat.le_refl _, hm, fun _ => ⟨g, 0, rfl, hS, h.lt, fun j u hu => by rw [Nat.zero_add, h.cell]; exact hu⟩⟩
set_option maxHeartbeats 6400000 in
set_option maxRecDepth 100000 in
theorem rshapesN_any (a b c : Int) (v : Value) (ls : List LayV) (w : World) (B : Nat) (hB : B ≤ w.heap.size) (h : LaysOf w B v ls) (res : List (List Int) × Int × Int) (hres : shapesM a b c ls = res) :
    Calls Try.prog 13 #[.agg #[.int .i64 a, .int .i64 b, .int .i64 c, v]] w (Shaped w res) := by
  obtain ⟨A, cc, rfl⟩ := h.form
  have hlen := h.len
  have HL := Lib.hid h
  have HR := Lib.hid hres
  have hb0 := net_one w (.cells #[.int .i64 a, .int .i64 b, .int .i64 c, .slice A ls.length cc] 25)
  have HB0 := Lib.hid hb0
  have hsz : w.heap.size < (w.alloc (.cells #[.int .i64 a, .int .i64 b, .int .i64 c, .slice A ls.length cc] 25)).heap.size := by simp
  have KB := Lib.hid (Blk.fresh w 25 [.int .i64 a, .int .i64 b, .int .i64 c, .slice A ls.length cc])
  obtain ⟨r, hr⟩ : ∃ r, mayM a b c ls = r := ⟨_, rfl⟩
  have HM := Lib.hid (rMayModel_any a b c _ ls (w.alloc (.cells #[.int .i64 a, .int .i64 b, .int .i64 c, .slice A ls.length cc] 25)) B (by omega) (h.below (hb0.mono hB)) r hr)
  have HRR := Lib.hid hr
  clear h hres hr hb0
  go_enter Try.func13, Try.ntmps13
  go_wp2_with fail
  refine HM.out.mono ?_
  rintro en w2 ⟨rfl, hb2⟩
  have K2 := Lib.hid (KB.out.below hb2 hsz)
  have HB2 := Lib.hid (HB0.out.trans (hb2.mono (by omega)))
  clear hb2 HB0 KB HM
  cases r with
  | false =>
    have HE : Hid (res = ([], 0, 1)) := Lib.hid (by rw [← HR.out]; unfold shapesM; rw [if_neg (by rw [HRR.out]; simp)])
    go_wp2
    refine bodyPost_ret (v := .tuple #[.slice none 0 0, .int .i64 0, .int .i64 1]) (by simp [results, Try.results13, go_sem]) rfl ?_
    rw [HE.out]
    exact shaped_no HB2.out
  | true =>
    have hmm : mayM a b c ls = true := HRR.out
    unfold mayM at hmm
    simp only [Bool.and_eq_true] at hmm
    obtain ⟨hm1, hm2, hm3⟩ := hmm
    have h12 := inI_of hm2
    have hgood := enters_good hm1
    have HME := Lib.hid hm3
    have HE : Hid (res = shapesI ls [[a, b, c]] 0 [a, b, c]) := Lib.hid (by rw [← HR.out]; unfold shapesM; rw [if_pos HRR.out])
    have hlen12 : ls.length ≤ 12 := by omega
    have hpr := hgood.prod
    have HGD := Lib.hid hgood
    have k0 : w2.cell? ⟨w.heap.size, 3, none⟩ = some (.slice A ls.length cc) := K2.out.cell 3
    have hw2 := K2.out.lt
    -- the first row
    have hz1 : (w2.alloc (.cells #[.int .i64 a, .int .i64 b, .int .i64 c] 3)).heap.size = w2.heap.size + 1 := by simp
    have hb3 : Below w.heap.size w (w2.alloc (.cells #[.int .i64 a, .int .i64 b, .int .i64 c] 3)) := HB2.out.alloc HB2.out.size _
    have hst : ShI w (.slice (some ⟨w2.heap.size + 1, 0, none⟩) 1 1) [[a, b, c]] ((w2.alloc (.cells #[.int .i64 a, .int .i64 b, .int .i64 c] 3)).alloc (.cells #[.slice (some ⟨w2.heap.size, 0, none⟩) 3 3] 32)) := by
      have kb := Blk.fresh (w2.alloc (.cells #[.int .i64 a, .int .i64 b, .int .i64 c] 3)) 32 [.slice (some ⟨w2.heap.size, 0, none⟩) 3 3]
      rw [hz1] at kb
      refine ⟨⟨[.slice (some ⟨w2.heap.size, 0, none⟩) 3 3], kb.ownAll (by have := HB2.out.size; omega) (by unfold maxLen; omega) rfl, rfl, Lib.hid (fun j x d hx hd => ?_)⟩, hb3.alloc hb3.size _⟩
      match j with
      | j + 1 => simp at hx
      | 0 =>
        simp at hx hd
        subst hx hd
        exact RowIn.of_blk ((Blk.fresh w2 3 (ints .i64 [a, b, c])).alloc _) rfl (by unfold maxLen; omega) (by simp [Value.ownBlock])
    have HST := Lib.hid hst
    have k1 : w2.cell? ⟨w.heap.size, 0, none⟩ = some (.int .i64 a) := K2.out.cell 0
    have k2 : w2.cell? ⟨w.heap.size, 1, none⟩ = some (.int .i64 b) := K2.out.cell 1
    have k3 : w2.cell? ⟨w.heap.size, 2, none⟩ = some (.int .i64 c) := K2.out.cell 2
    clear hm1 hm2 hm3 h12 hgood hpr hst hz1 hb3
    go_wp2_with fail
    generalize ((w2.alloc (.cells #[.int .i64 a, .int .i64 b, .int .i64 c] 3)).alloc (.cells #[.slice (some ⟨w2.heap.size, 0, none⟩) 3 3] 32)) = w4 at HST ⊢
    clear k0 k1 k2 k3
    go_loopw [27, 5] (fun i u wr => ∃ (k : Nat) (all : List (List Int)) (d : List Int), k ≤ ls.length ∧ i = .int .i64 k ∧ ShI w u all wr ∧ all.length = k + 1 ∧ all[k]? = some d ∧ GoodD d ∧ Hid (shapesI (ls.drop k) all k d = res)) (fun i _ _ => ls.length - (intOf i).toNat)
    case atStart => exact ⟨0, _, [a, b, c], by omega, rfl, HST.out, rfl, rfl, HGD.out, Lib.hid (by rw [HE.out]; rfl)⟩
    case round =>
      clear HST
      obtain ⟨k, all, d, hk, rfl, hsh, hal, hd, hgd, hre⟩ := hrel
      by_cases hlt : k < ls.length
      · obtain ⟨g, o, c', l, e1, hlk, hok, hg, q0, q1, q2, q3, q4, q5, q6⟩ := (HL.out.below (hsh.bel.mono hB)).at_ hlt
        injection e1 with e1 _ e3
        subst e1 e3
        have hma := mayLs_at ls 0 k l HME.out hlk
        rw [Int.zero_add] at hma
        have hszr := hsh.bel.size
        obtain ⟨x0, x1, x2, x3, x4, x5, x6⟩ := l
        dsimp only at q0 q1 q2 q3 q4 q5 q6
        have hal1 := net_one wr (.cells #[.int .i64 x0, .int .i64 x1, .int .i64 x2, .int .i64 x3, .int .i64 x4, .int .i64 x5, .bool x6] 43)
        have HS1 := Lib.hid ((hsh.below hal1).below ((Below.refl _ _).drew))
        obtain ⟨Au, cu, rfl⟩ := hsh.form
        obtain ⟨gi, hgi⟩ : ∃ gi, givesI ⟨x0, x1, x2, x3, x4, x5, x6⟩ all d = gi := ⟨_, rfl⟩
        obtain ⟨gr, og, c9, Ad, cd, e9, hgr9, hdc9, hrd9⟩ := HS1.out.rows.at_ hd
        injection e9 with e9 _ e10
        subst e9 e10
        have HGV := Lib.hid (after_any x0 x1 x2 x3 x4 x5 x6 _ _ all d k _ _ (Nat.le_refl _) hok HS1.out.rows hrd9 hal (by omega) hgd hma gi hgi)
        have hdr : shapesI (ls.drop k) all k d = afterI (ls.drop (k + 1)) all k gi := by
          rw [List.drop_eq_getElem_cons hlt]
          have : ls[k] = ⟨x0, x1, x2, x3, x4, x5, x6⟩ := (List.getElem?_eq_some_iff.1 hlk).2
          rw [this, shapesI_cons, hgi]
        have HDR := Lib.hid hdr
        have HGI := Lib.hid (fun e he => givesI_good (e := e) hma hgd (hgi.trans he))
        have HAL := Lib.hid hal
        clear hsh hal1 hlk hok hd hgd hma hgi hdr
        rw [hal] at HS1 HGV ⊢
        clear hal
        have kb := (Blk.fresh wr 43 [.int .i64 x0, .int .i64 x1, .int .i64 x2, .int .i64 x3, .int .i64 x4, .int .i64 x5, .bool x6]).drew
        have i1 : (k : Int) < (k : Int) + 1 := by omega
        have hwk : (0 : Int) ≤ (k : Int) := by omega
        have HGV2 := Lib.hid HGV.out
        go_wp2_with fail
        refine wp_region_held_drew (S := (fun w' => w'.cell? ⟨gr, og + k, none⟩ = some (.slice Ad d.length cd) ∧ w'.cell? ⟨wr.heap.size, 0, none⟩ = some (.int .i64 x0) ∧ w'.cell? ⟨wr.heap.size, 1, none⟩ = some (.int .i64 x1) ∧ w'.cell? ⟨wr.heap.size, 2, none⟩ = some (.int .i64 x2) ∧ w'.cell? ⟨wr.heap.size, 3, none⟩ = some (.int .i64 x3) ∧ w'.cell? ⟨wr.heap.size, 4, none⟩ = some (.int .i64 x4) ∧ w'.cell? ⟨wr.heap.size, 5, none⟩ = some (.int .i64 x5) ∧ w'.cell? ⟨wr.heap.size, 6, none⟩ = some (.bool x6))) (by kernel_rfl) (⟨hdc9, kb.cell 0, kb.cell 1, kb.cell 2, kb.cell 3, kb.cell 4, kb.cell 5, kb.cell 6⟩) (fun hHeld => ?_)
        refine' wpAnyH_take (i := 0) (v := _) rfl (by kernel_rfl) (by kernel_rfl) (by kernel_rfl) (fun _ _ _ h => h) (Or.inl ⟨by rfl, ?taq1⟩) (by assumption) ?tbq1
        case taq1 =>
          intro wS hSw
          (try dsimp only at hSw)
          go_simp
          (try (with_reducible rfl))
        (try simp only [List.getElem_toArray, List.getElem_cons_zero, List.getElem_cons_succ, Act.put, List.setIfInBounds_toArray, List.set_cons_zero, List.set_cons_succ])
        refine' wpAnyH_take (i := 1) (v := _) rfl (by kernel_rfl) (by kernel_rfl) (by kernel_rfl) (fun _ _ _ h => h) (Or.inl ⟨by rfl, ?taq2⟩) (by assumption) ?tbq2
        case taq2 =>
          intro wS hSw
          (try dsimp only at hSw)
          go_simp
          (try (with_reducible rfl))
        (try simp only [List.getElem_toArray, List.getElem_cons_zero, List.getElem_cons_succ, Act.put, List.setIfInBounds_toArray, List.set_cons_zero, List.set_cons_succ])
        refine' wpAnyH_take (i := 2) (v := _) rfl (by kernel_rfl) (by kernel_rfl) (by kernel_rfl) (fun _ _ _ h => h) (Or.inl ⟨by rfl, ?taq3⟩) (by assumption) ?tbq3
        case taq3 =>
          intro wS hSw
          (try dsimp only at hSw)
          go_simp
          (try (with_reducible rfl))
        (try simp only [List.getElem_toArray, List.getElem_cons_zero, List.getElem_cons_succ, Act.put, List.setIfInBounds_toArray, List.set_cons_zero, List.set_cons_succ])
        refine' wpAnyH_take (i := 3) (v := _) rfl (by kernel_rfl) (by kernel_rfl) (by kernel_rfl) (fun _ _ _ h => h) (Or.inl ⟨by rfl, ?taq4⟩) (by assumption) ?tbq4
        case taq4 =>
          intro wS hSw
          (try dsimp only at hSw)
          go_simp
          (try (with_reducible rfl))
        (try simp only [List.getElem_toArray, List.getElem_cons_zero, List.getElem_cons_succ, Act.put, List.setIfInBounds_toArray, List.set_cons_zero, List.set_cons_succ])
        refine' wpAnyH_take (i := 4) (v := _) rfl (by kernel_rfl) (by kernel_rfl) (by kernel_rfl) (fun _ _ _ h => h) (Or.inl ⟨by rfl, ?taq5⟩) (by assumption) ?tbq5
        case taq5 =>
          intro wS hSw
          (try dsimp only at hSw)
          go_simp
          (try (with_reducible rfl))
        (try simp only [List.getElem_toArray, List.getElem_cons_zero, List.getElem_cons_succ, Act.put, List.setIfInBounds_toArray, List.set_cons_zero, List.set_cons_succ])
        refine' wpAnyH_take (i := 5) (v := _) rfl (by kernel_rfl) (by kernel_rfl) (by kernel_rfl) (fun _ _ _ h => h) (Or.inl ⟨by rfl, ?taq6⟩) (by assumption) ?tbq6
        case taq6 =>
          intro wS hSw
          (try dsimp only at hSw)
          go_simp
          (try (with_reducible rfl))
        (try simp only [List.getElem_toArray, List.getElem_cons_zero, List.getElem_cons_succ, Act.put, List.setIfInBounds_toArray, List.set_cons_zero, List.set_cons_succ])
        refine wpAnyH_ready (rs := [6]) (by kernel_rfl) (by simp) ?_
        refine AllReadyH.cons rfl (fun K9 hK9 => ?_) AllReadyH.nil
        (try simp only [List.getElem_toArray, List.getElem_cons_zero, List.getElem_cons_succ])
        go_simp
        refine HGV2.out.mono ?_
        rintro en w5 hq
        obtain ⟨A5, n5, c5, b5, rfl, hb5, hq5⟩ := aft_form hq
        have kb5 := kb.below hb5 kb.lt
        have hdc5 : w5.cell? ⟨gr, og + k, none⟩ = some (.slice Ad d.length cd) := (hb5.cell (p := ⟨gr, og + k, none⟩) hgr9).trans hdc9
        have HS5 := Lib.hid (HS1.out.below hb5)
        have hsl5 := hb5.size
        clear hq hb5
        refine hK9.out _ _ (⟨hdc5, kb5.cell 0, kb5.cell 1, kb5.cell 2, kb5.cell 3, kb5.cell 4, kb5.cell 5, kb5.cell 6⟩) (fun hHeld9 => ?_)
        clear hK9 K9
        (try simp only [List.getElem_toArray, List.getElem_cons_zero, List.getElem_cons_succ, Act.put, List.setIfInBounds_toArray, List.set_cons_zero, List.set_cons_succ])
        refine' wpAnyH_take (i := 7) (v := _) rfl (by kernel_rfl) (by kernel_rfl) (by kernel_rfl) (fun _ _ _ h => h) (Or.inl ⟨by rfl, ?taq7⟩) (by assumption) ?tbq7
        case taq7 =>
          intro wS hSw
          (try dsimp only at hSw)
          go_simp
          (try (with_reducible rfl))
        (try simp only [List.getElem_toArray, List.getElem_cons_zero, List.getElem_cons_succ, Act.put, List.setIfInBounds_toArray, List.set_cons_zero, List.set_cons_succ])
        refine' wpAnyH_take (i := 8) (v := _) rfl (by kernel_rfl) (by kernel_rfl) (by kernel_rfl) (fun _ _ _ h => h) (Or.inl ⟨by rfl, ?taq8⟩) (by assumption) ?tbq8
        case taq8 =>
          intro wS hSw
          (try dsimp only at hSw)
          go_simp
          (try (with_reducible rfl))
        (try simp only [List.getElem_toArray, List.getElem_cons_zero, List.getElem_cons_succ, Act.put, List.setIfInBounds_toArray, List.set_cons_zero, List.set_cons_succ])
        refine' wpAnyH_take (i := 9) (v := _) rfl (by kernel_rfl) (by kernel_rfl) (by kernel_rfl) (fun _ _ _ h => h) (Or.inl ⟨by rfl, ?taq9⟩) (by assumption) ?tbq9
        case taq9 =>
          intro wS hSw
          (try dsimp only at hSw)
          go_simp
          (try (with_reducible rfl))
        (try simp only [List.getElem_toArray, List.getElem_cons_zero, List.getElem_cons_succ, Act.put, List.setIfInBounds_toArray, List.set_cons_zero, List.set_cons_succ])
        refine' wpAnyH_take (i := 10) (v := _) rfl (by kernel_rfl) (by kernel_rfl) (by kernel_rfl) (fun _ _ _ h => h) (Or.inl ⟨by rfl, ?taq10⟩) (by assumption) ?tbq10
        case taq10 =>
          intro wS hSw
          (try dsimp only at hSw)
          go_simp
          (try (with_reducible rfl))
        (try simp only [List.getElem_toArray, List.getElem_cons_zero, List.getElem_cons_succ, Act.put, List.setIfInBounds_toArray, List.set_cons_zero, List.set_cons_succ])
        refine' wpAnyH_take (i := 11) (v := _) rfl (by kernel_rfl) (by kernel_rfl) (by kernel_rfl) (fun _ _ _ h => h) (Or.inl ⟨by rfl, ?taq11⟩) (by assumption) ?tbq11
        case taq11 =>
          intro wS hSw
          (try dsimp only at hSw)
          go_simp
          (try (with_reducible rfl))
        (try simp only [List.getElem_toArray, List.getElem_cons_zero, List.getElem_cons_succ, Act.put, List.setIfInBounds_toArray, List.set_cons_zero, List.set_cons_succ])
        refine wpAnyH_done (by kernel_rfl) ?_ _
        clear kb kb5 hdc5 hdc9 hHeld hHeld9 i1
        cases gi with
        | none =>
          have hb0 := hq5.out
          simp only [AftIs] at hb0
          subst hb0
          have HB5 := Lib.hid HS5.out.bel
          clear hq5
          go_wp2
          refine bodyPost_ret (v := .tuple #[.slice none 0 0, .int .i64 ((k : Int) + 1), .int .i64 2]) (by simp [results, Try.results13, go_sem]) rfl ?_
          rw [← hre.out, HDR.out]
          exact shaped_no HB5.out
        | some e =>
          have hb0 := hq5.out
          simp only [AftIs] at hb0
          obtain ⟨rfl, rfl, g5, rfl, hown5⟩ := hb0
          have hge := HGI.out e rfl
          have hul := HS1.out.lt
          have HO5 := Lib.hid hown5
          have HUL := Lib.hid hul
          have HGE := Lib.hid hge
          clear hown5 hge hul hq5
          go_wp2_with fail
          refine (rmaydims_good HGE.out _ _ _ (Reads.of_own HO5.out)).mono ?_
          rintro en w6 ⟨rfl, rfl⟩
          have HS6 := Lib.hid (HS5.out.below (net_one w5 (.cells #[.slice (some ⟨g5, 0, none⟩) e.length c5] 32)))
          obtain ⟨vs, hv1, hv2, hv3⟩ := HS6.out.own
          have HV1 := Lib.hid hv1
          have HV2 := Lib.hid hv2
          have HV3 := Lib.hid hv3
          rw [HAL.out] at hv2
          have hv4 : vs.length ≤ 1000 := by omega
          rw [hv2] at hv1
          clear hv3
          go_wp2_with (at_builtin; refine wpList_extend elem_row _ rfl (.tmp 51) (.tmp 53) rfl w.heap.size (k + 1) _ vs rfl hv1 _ _ [_] rfl (Reads.one_ w5 _ _) (by simp [Value.oneCell']) (by simp only [List.length_cons, List.length_nil, maxLen]; omega) (by simp only [List.length_cons, List.length_nil]; omega) (by have := HS5.out.bel.size; simp; omega) ?_; intro A9 c9 w9 hown9 hgrow9 hfr9)
          have hx : RowIn (fun g => (Value.slice (some ⟨gr, og, none⟩) (k + 1) _).ownBlock ≠ some g) (w5.alloc (.cells #[.slice (some ⟨g5, 0, none⟩) e.length c5] 32)) (.slice (some ⟨g5, 0, none⟩) e.length c5) e :=
            RowIn.of_own (own_off HO5.out ((Off.refl (fun _ => False) w5).alloc _) (fun _ _ h => h)) (fun g hg _ he => by have := (HUL.out g he).2; omega)
          have hnext := ShI.next (all := all) HS6.out.bel HV1.out HV2.out HV3.out hx hgrow9 hfr9 (by rw [hv2]; exact hown9)
          have hlen9 : (all ++ [e]).length = k + 1 + 1 := by rw [List.length_append, HAL.out]; rfl
          have hlast : (all ++ [e])[k + 1]? = some e := by rw [← HAL.out]; simp
          have HNX := Lib.hid hnext
          have HL9 := Lib.hid hlen9
          have HLA := Lib.hid hlast
          clear hx hown9 hgrow9 hfr9 hv1 hv2 hv4 HV1 HV2 HV3 HS6 HS5 HS1 HO5 HUL hnext hlen9 hlast
          go_roundw
          case rel => exact ⟨k + 1, _, e, by omega, by go_num, HNX.out, HL9.out, HLA.out, HGE.out, Lib.hid (by rw [← hre.out, HDR.out]; rfl)⟩
          case measure => simp [intOf]; omega
      · obtain rfl : k = ls.length := by omega
        have hre2 := hre.out
        rw [List.drop_length] at hre2
        obtain ⟨Au, cu, rfl⟩ := hsh.form
        have HS := Lib.hid hsh
        have HE2 : Hid (res = (all, 0, 0)) := Lib.hid hre2.symm
        clear hsh hre2
        go_wp2
        refine bodyPost_ret (v := .tuple #[.slice Au all.length cu, .int .i64 0, .int .i64 0]) (by simp [results, Try.results13, go_sem]) rfl ?_
        rw [HE2.out]
        exact ⟨Au, cu, rfl, HS.out.rows, HS.out.bel⟩
end Go.Proofs.Ytkileiikffomlaa
