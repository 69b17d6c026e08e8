/- Contract of check.Shapes. -/
import Derived.Test.YtkileiikffomlaaNetGives2
namespace Go.Proofs.Ytkileiikffomlaa
open Go.RowKit
set_option linter.unusedVariables false
set_option linter.unusedSimpArgs false

/-- a row of numbers in a block of S -/
def RowIn (S : Nat → Prop) (w : World) (v : Value) (xs : List Int) : Prop :=
  ∃ A n c, v = .slice A n c ∧ xs.length = n ∧ n ≤ c ∧ c ≤ maxLen ∧ Hid (0 < n → ∃ g o, A = some ⟨g, o, none⟩ ∧ S g ∧ g < w.heap.size ∧ ∀ j u, (ints .i64 xs)[j]? = some u → w.cell? ⟨g, o + j, none⟩ = some u)
section
variable {S T S' : Nat → Prop} {w w' : World} {v : Value} {xs : List Int}
theorem RowIn.reads (h : RowIn S w v xs) : Reads w w.heap.size v (ints .i64 xs) := by
  obtain ⟨A, n, c, e, hl, hc, hm, ha⟩ := h
  refine ⟨A, n, c, e, by rw [length_ints]; exact hl, hc, hm, fun hn => ?_⟩
  obtain ⟨g, o, hA, _, hg, hx⟩ := ha.out hn
  exact ⟨g, o, hA, hg, hx⟩
theorem RowIn.off (h : RowIn S w v xs) (ho : Off T w w') (hT : ∀ g, S g → g < w.heap.size → ¬ T g) (hS : ∀ g, S g → g < w.heap.size → S' g) : RowIn S' w' v xs := by
  obtain ⟨A, n, c, e, hl, hc, hm, ha⟩ := h
  refine ⟨A, n, c, e, hl, hc, hm, fun hn => ?_⟩
  obtain ⟨g, o, hA, hs, hg, hx⟩ := ha.out hn
  exact ⟨g, o, hA, hS g hs hg, by have := ho.size; omega, fun j u hu => (ho.cell (p := ⟨g, o + j, none⟩) hg (hT g hs hg)).trans (hx j u hu)⟩
theorem RowIn.of_own {base n c : Nat} {A : Option Addr} (h : w.ownsRow base 3 1 (.slice A n c) n (ints .i64 xs)) (hS : ∀ g, base ≤ g → g < w.heap.size → S g) : RowIn S w (.slice A n c) xs := by
  obtain ⟨A', n', c', e, hl, hc, hm, ha⟩ := Reads.of_own h
  have e0 := e
  injection e with e1 e2 e3
  subst e1 e2 e3
  refine ⟨A, n, c, rfl, by rw [length_ints] at hl; exact hl, hc, hm, fun hn => ?_⟩
  obtain ⟨g, o, hA, hg, hx⟩ := ha.out hn
  have := h.lt g (by rw [hA]; rfl)
  exact ⟨g, o, hA, hS g this.1 hg, hg, hx⟩
end
theorem elem_row : ElemOf Try.prog 27 32 (.slice none 0 0) 24 := ⟨Try.underlying27, by kernel_rfl, rfl⟩
/-- the rows that a call puts together -/
structure ShI (w : World) (u : Value) (all : List (List Int)) (wr : World) : Prop where
  own : ∃ vs, wr.ownsRow w.heap.size 32 1 u vs.length vs ∧ vs.length = all.length ∧ Hid (∀ (j : Nat) x d, vs[j]? = some x → all[j]? = some d → RowIn (fun g => u.ownBlock ≠ some g) wr x d)
  bel : Below w.heap.size w wr
section
variable {w wr w5 w7 : World} {u : Value} {all : List (List Int)}
theorem ShI.rows (h : ShI w u all wr) : RowsOf wr wr.heap.size u all := by
  obtain ⟨vs, h1, h2, h3⟩ := h.own
  exact ⟨vs, Reads.of_own h1, h2, Lib.hid (fun j x d hx hd => (h3.out j x d hx hd).reads)⟩
theorem ShI.form (h : ShI w u all wr) : ∃ A c, u = .slice A all.length c := by
  obtain ⟨vs, h1, h2, h3⟩ := h.own
  obtain ⟨A, c, e⟩ := own_form h1
  exact ⟨A, c, by rw [← h2]; exact e⟩
theorem ShI.below (h : ShI w u all wr) (hb : Below wr.heap.size wr w5) : ShI w u all w5 := by
  obtain ⟨vs, h1, h2, h3⟩ := h.own
  have ho : Off (fun i => wr.heap.size ≤ i) wr w5 := Off.of_below hb (fun i hi => .inl hi)
  exact ⟨⟨vs, own_off h1 ho (fun k hk => by have := (h1.lt k hk).2; omega), h2, Lib.hid (fun j x d hx hd => (h3.out j x d hx hd).off ho (fun g _ hg => by omega) (fun g hs _ => hs))⟩, h.bel.trans (hb.mono h.bel.size)⟩
theorem ShI.lt (h : ShI w u all wr) : ∀ k, u.ownBlock = some k → w.heap.size ≤ k ∧ k < wr.heap.size := by
  obtain ⟨vs, h1, h2, h3⟩ := h.own
  exact h1.lt
/-- one more -/
theorem ShI.next {u' x : Value} {d : List Int} {vs : List Value} (hbel : Below w.heap.size w wr) (h1 : wr.ownsRow w.heap.size 32 1 u vs.length vs) (h2 : vs.length = all.length) (h3 : Hid (∀ (j : Nat) x d, vs[j]? = some x → all[j]? = some d → RowIn (fun g => u.ownBlock ≠ some g) wr x d))
    (hx : RowIn (fun g => u.ownBlock ≠ some g) wr x d) (hg : wr.grownBy w7 u.ownBlock) (hf : Fresh wr u u')
    (hown : w7.ownsRow w.heap.size 32 1 u' (vs.length + 1) (vs ++ [x])) : ShI w u' (all ++ [d]) w7 := by
  have ho : Off (fun i => u.ownBlock = some i) wr w7 := (Off.refl _ _).grown hg (fun k hk => .inl hk)
  have hS : ∀ g, u.ownBlock ≠ some g → g < wr.heap.size → u'.ownBlock ≠ some g := fun g h0 hg he => by
    rcases hf.off he with h4 | h4
    · exact h0 h4
    · omega
  refine ⟨⟨vs ++ [x], by rw [List.length_append]; exact hown, by simp [h2], Lib.hid (fun j y e hy he => ?_)⟩, hbel.trans (ho.below hbel.size (fun i hi => (h1.lt i hi).1))⟩
  rcases Nat.lt_or_ge j vs.length with hj | hj
  · rw [List.getElem?_append_left hj] at hy
    rw [List.getElem?_append_left (by omega)] at he
    exact (h3.out j y e hy he).off ho (fun g h0 _ => h0) hS
  · have hjl : j < (vs ++ [x]).length := (List.getElem?_eq_some_iff.1 hy).1
    rw [List.length_append, List.length_singleton] at hjl
    obtain rfl : j = vs.length := by omega
    simp at hy
    rw [h2] at he
    simp at he
    subst hy he
    exact hx.off ho (fun g h0 _ => h0) hS
end
/-- what Shapes tells -/
def Shaped (w : World) (res : List (List Int) × Int × Int) (en : Ending) (w' : World) : Prop :=
  ∃ A c, en = .returned (.tuple #[.slice A res.1.length c, .int .i64 res.2.1, .int .i64 res.2.2]) ∧ RowsOf w' w'.heap.size (.slice A res.1.length c) res.1 ∧ Below w.heap.size w w'
theorem RowsOf.nil_ (w : World) (B : Nat) : RowsOf w B (.slice none 0 0) [] := ⟨[], Reads.nil_ _ _, rfl, Lib.hid (by intro j u d h; simp at h)⟩
theorem shaped_no {w w' : World} {n e : Int} (hb : Below w.heap.size w w') : Shaped w ([], n, e) (.returned (.tuple #[.slice none 0 0, .int .i64 n, .int .i64 e])) w' :=
  ⟨none, 0, rfl, RowsOf.nil_ _ _, hb⟩
theorem enters_good {a b c : Int} (h : entersI a b c = true) : GoodD [a, b, c] := by
  unfold entersI at h
  simp only [Bool.and_eq_true] at h
  have h1 := inI_of h.1.1
  have h2 := inI_of h.1.2
  have h3 := inI_of h.2
  exact .inl ⟨a, b, c, rfl, by omega, by omega, by omega, by omega, by omega, by omega⟩

/-- how it goes on behind a layer -/
def afterI (ls : List LayV) (all : List (List Int)) (i : Int) : Option (List Int) → List (List Int) × Int × Int
  | none => ([], i + 1, 2)
  | some e => shapesI ls (all ++ [e]) (i + 1) e
theorem shapesI_cons (l : LayV) (ls : List LayV) (all : List (List Int)) (i : Int) (d : List Int) : shapesI (l :: ls) all i d = afterI ls all i (givesI l all d) := by
  simp only [shapesI]
  cases givesI l all d <;> rfl

set_option maxHeartbeats 6400000 in
set_option maxRecDepth 100000 in
theorem shapes_any (a b c : Int) (v : Value) (ls : List LayV) (w : World) (B : Nat) (hB : B ≤ w.heap.size) (h : LaysOf w B v ls) (res : List (List Int) × Int × Int) (hres : shapesM a b c ls = res) :
    Calls Try.prog 12 #[.agg #[.int .i64 a, .int .i64 b, .int .i64 c, v]] w (Shaped w res) := by
  obtain ⟨A, cc, rfl⟩ := h.form
  have hlen := h.len
  have HL := Lib.hid h
  have HR := Lib.hid hres
  have hb0 := net_one w (.cells #[.int .i64 a, .int .i64 b, .int .i64 c, .slice A ls.length cc] 25)
  have HB0 := Lib.hid hb0
  have hsz : w.heap.size < (w.alloc (.cells #[.int .i64 a, .int .i64 b, .int .i64 c, .slice A ls.length cc] 25)).heap.size := by simp
  have KB := Lib.hid (Blk.fresh w 25 [.int .i64 a, .int .i64 b, .int .i64 c, .slice A ls.length cc])
  obtain ⟨r, hr⟩ : ∃ r, mayM a b c ls = r := ⟨_, rfl⟩
  have HM := Lib.hid (mMay_any a b c _ ls (w.alloc (.cells #[.int .i64 a, .int .i64 b, .int .i64 c, .slice A ls.length cc] 25)) B (by omega) (h.below (hb0.mono hB)) r hr)
  have HRR := Lib.hid hr
  have qT : ∀ (w : World) (a : Option Addr) (n c n' c' : Nat), (binOp .eql 32 (.slice a n c) (.slice none n' c')).run Try.prog w = .ok (.bool a.isNone) w := fun w a n c n' c' => Lib.run_eql_slice_nil w _ _ a n c n' c' Try.underlying32
  have QT := Lib.hid qT
  clear h hres hr hb0 qT
  go_enter Try.func12, Try.ntmps12
  go_wp2_with fail
  refine HM.out.mono ?_
  rintro en w2 ⟨rfl, hb2⟩
  have K2 := Lib.hid (KB.out.below hb2 hsz)
  have HB2 := Lib.hid (HB0.out.trans (hb2.mono (by omega)))
  clear hb2 HB0 KB HM
  cases r with
  | false =>
    have HE : Hid (res = ([], 0, 1)) := Lib.hid (by rw [← HR.out]; unfold shapesM; rw [if_neg (by rw [HRR.out]; simp)])
    go_wp2
    refine bodyPost_ret (v := .tuple #[.slice none 0 0, .int .i64 0, .int .i64 1]) (by simp [results, Try.results12, go_sem]) rfl ?_
    rw [HE.out]
    exact shaped_no HB2.out
  | true =>
    have hmm : mayM a b c ls = true := HRR.out
    unfold mayM at hmm
    simp only [Bool.and_eq_true] at hmm
    obtain ⟨hm1, hm2, hm3⟩ := hmm
    have h12 := inI_of hm2
    have hgood := enters_good hm1
    have HME := Lib.hid hm3
    have HE : Hid (res = shapesI ls [[a, b, c]] 0 [a, b, c]) := Lib.hid (by rw [← HR.out]; unfold shapesM; rw [if_pos HRR.out])
    have hlen12 : ls.length ≤ 12 := by omega
    have hpr := hgood.prod
    have HGD := Lib.hid hgood
    have k0 : w2.cell? ⟨w.heap.size, 3, none⟩ = some (.slice A ls.length cc) := K2.out.cell 3
    have hw2 := K2.out.lt
    -- the first row
    have hrow : Reads (w2.alloc (.cells #[.slice (some ⟨w.heap.size, 0, none⟩) 3 3] 32)) (w2.heap.size + 1) (.slice (some ⟨w.heap.size, 0, none⟩) 3 3) (ints .i64 [a, b, c]) :=
      ⟨_, _, _, rfl, rfl, by omega, by unfold maxLen; omega, fun _ => ⟨w.heap.size, 0, rfl, by omega, fun j u hu => by
        rw [Nat.zero_add]
        match j with
        | 0 => exact ((K2.out.alloc _).cell 0).trans hu
        | 1 => exact ((K2.out.alloc _).cell 1).trans hu
        | 2 => exact ((K2.out.alloc _).cell 2).trans hu
        | j + 3 => simp [ints] at hu⟩⟩
    have hst : ShI w (.slice (some ⟨w2.heap.size, 0, none⟩) 1 1) [[a, b, c]] (w2.alloc (.cells #[.slice (some ⟨w.heap.size, 0, none⟩) 3 3] 32)) := by
      refine ⟨⟨[.slice (some ⟨w.heap.size, 0, none⟩) 3 3], (Blk.fresh w2 32 [.slice (some ⟨w.heap.size, 0, none⟩) 3 3]).ownAll HB2.out.size (by unfold maxLen; omega) rfl, rfl, Lib.hid (fun j x d hx hd => ?_)⟩, HB2.out.alloc HB2.out.size _⟩
      match j with
      | j + 1 => simp at hx
      | 0 =>
        simp at hx hd
        subst hx hd
        obtain ⟨A', n', c', e, hl, hc, hm, ha⟩ := hrow
        refine ⟨_, _, _, rfl, rfl, by omega, by unfold maxLen; omega, fun hn => ?_⟩
        injection e with e1 e2 e3
        subst e1 e2 e3
        obtain ⟨g, o, hA, hg, hx⟩ := ha.out hn
        injection hA with hA
        injection hA with hA1 hA2
        subst hA1 hA2
        exact ⟨_, _, rfl, by simp [Value.ownBlock]; omega, by simp; omega, hx⟩
    have HST := Lib.hid hst
    have HROW := Lib.hid hrow
    have HPR := Lib.hid hpr
    clear hm1 hm2 hm3 h12 hgood hpr hst hrow
    obtain ⟨pp0, pp1⟩ := HPR.out
    go_wp2_with fail
    refine (cprod_any [a, b, c] _ _ _ HROW.out HGD.out).mono ?_
    rintro en w3 ⟨rfl, rfl⟩
    have kA : (w2.alloc (.cells #[.slice (some ⟨w.heap.size, 0, none⟩) 3 3] 32)).cell? ⟨w.heap.size, 3, none⟩ = some (.slice A ls.length cc) := (K2.out.alloc _).cell 3
    generalize prodI [a, b, c] = pr at pp0 pp1 ⊢
    clear k0 HROW HPR
    go_wp2_with fail
    generalize (w2.alloc (.cells #[.slice (some ⟨w.heap.size, 0, none⟩) 3 3] 32)) = w4 at HST kA ⊢
    clear kA
    go_loopw [23, 5] (fun i u wr => ∃ (k : Nat) (all : List (List Int)) (d : List Int), k ≤ ls.length ∧ i = .int .i64 k ∧ ShI w u all wr ∧ all.length = k + 1 ∧ all[k]? = some d ∧ GoodD d ∧ Hid (shapesI (ls.drop k) all k d = res)) (fun i _ _ => ls.length - (intOf i).toNat)
    case atStart => exact ⟨0, _, [a, b, c], by omega, rfl, HST.out, rfl, rfl, HGD.out, Lib.hid (by rw [HE.out]; rfl)⟩
    case round =>
      clear HST
      obtain ⟨k, all, d, hk, rfl, hsh, hal, hd, hgd, hre⟩ := hrel
      by_cases hlt : k < ls.length
      · obtain ⟨g, o, c', l, e1, hlk, hok, hg, q0, q1, q2, q3, q4, q5, q6⟩ := (HL.out.below (hsh.bel.mono hB)).at_ hlt
        injection e1 with e1 _ e3
        subst e1 e3
        have hma := mayLs_at ls 0 k l HME.out hlk
        rw [Int.zero_add] at hma
        have hszr := hsh.bel.size
        obtain ⟨x0, x1, x2, x3, x4, x5, x6⟩ := l
        dsimp only at q0 q1 q2 q3 q4 q5 q6
        have hal1 := net_one wr (.cells #[.int .i64 x0, .int .i64 x1, .int .i64 x2, .int .i64 x3, .int .i64 x4, .int .i64 x5, .bool x6] 43)
        have HS1 := Lib.hid (hsh.below hal1)
        obtain ⟨Au, cu, rfl⟩ := hsh.form
        obtain ⟨gi, hgi⟩ : ∃ gi, givesI ⟨x0, x1, x2, x3, x4, x5, x6⟩ all d = gi := ⟨_, rfl⟩
        have HGV := Lib.hid (gives_any x0 x1 x2 x3 x4 x5 x6 _ all d k _ _ (Nat.le_refl _) hok HS1.out.rows hal (by omega) hd hgd hma gi hgi)
        have hdr : shapesI (ls.drop k) all k d = afterI (ls.drop (k + 1)) all k gi := by
          rw [List.drop_eq_getElem_cons hlt]
          have : ls[k] = ⟨x0, x1, x2, x3, x4, x5, x6⟩ := (List.getElem?_eq_some_iff.1 hlk).2
          rw [this, shapesI_cons, hgi]
        have HDR := Lib.hid hdr
        have HGI := Lib.hid (fun e he => givesI_good (e := e) hma hgd (hgi.trans he))
        have HAL := Lib.hid hal
        clear hsh hal1 hlk hok hd hgd hma hgi hdr
        rw [hal] at HS1 HGV ⊢
        clear hal
        go_wp2_with fail
        refine HGV.out.mono ?_
        rintro en w5 hq
        cases gi with
        | none =>
          obtain ⟨rfl, hb5⟩ := hq
          have HB5 := Lib.hid (HS1.out.below hb5).bel
          have qT := QT.out
          clear hb5
          go_wp2
          refine bodyPost_ret (v := .tuple #[.slice none 0 0, .int .i64 ((k : Int) + 1), .int .i64 2]) (by simp [results, Try.results12, go_sem]) rfl ?_
          rw [← hre.out, HDR.out]
          exact shaped_no HB5.out
        | some e =>
          obtain ⟨g5, c5, rfl, hown5, hb5⟩ := hq
          have hge := HGI.out e rfl
          obtain ⟨pe0, pe1⟩ := hge.prod
          have HS5 := Lib.hid (HS1.out.below hb5)
          have HO5 := Lib.hid hown5
          have hul := HS1.out.lt
          have HUL := Lib.hid hul
          have HGE := Lib.hid hge
          have qT := QT.out
          clear hb5 hown5 hge hul
          go_wp2_with fail
          refine (cprod_any e _ _ _ (Reads.of_own HO5.out) HGE.out).mono ?_
          rintro en w6 ⟨rfl, rfl⟩
          generalize hpe : prodI e = pe at pe0 pe1 ⊢
          clear hpe qT
          have HS6 := Lib.hid (HS5.out.below (net_one w5 (.cells #[.slice (some ⟨g5, 0, none⟩) e.length c5] 32)))
          obtain ⟨vs, hv1, hv2, hv3⟩ := HS6.out.own
          have HV1 := Lib.hid hv1
          have HV2 := Lib.hid hv2
          have HV3 := Lib.hid hv3
          rw [HAL.out] at hv2
          have hv4 : vs.length ≤ 1000 := by omega
          rw [hv2] at hv1
          clear hv3
          go_wp2_with (at_builtin; refine wpList_extend elem_row _ rfl (.tmp 42) (.tmp 44) rfl w.heap.size (k + 1) _ vs rfl hv1 _ _ [_] rfl (Reads.one_ w5 _ _) (by simp [Value.oneCell']) (by simp only [List.length_cons, List.length_nil, maxLen]; omega) (by simp only [List.length_cons, List.length_nil]; omega) (by have := HS5.out.bel.size; simp; omega) ?_; intro A9 c9 w9 hown9 hgrow9 hfr9)
          have hx : RowIn (fun g => (Value.slice Au (k + 1) cu).ownBlock ≠ some g) (w5.alloc (.cells #[.slice (some ⟨g5, 0, none⟩) e.length c5] 32)) (.slice (some ⟨g5, 0, none⟩) e.length c5) e :=
            RowIn.of_own (own_off HO5.out ((Off.refl (fun _ => False) w5).alloc _) (fun _ _ h => h)) (fun g hg _ he => by have := (HUL.out g he).2; omega)
          have hnext := ShI.next (all := all) HS6.out.bel HV1.out HV2.out HV3.out hx hgrow9 hfr9 (by rw [hv2]; exact hown9)
          have hlen9 : (all ++ [e]).length = k + 1 + 1 := by rw [List.length_append, HAL.out]; rfl
          have hlast : (all ++ [e])[k + 1]? = some e := by rw [← HAL.out]; simp
          have HNX := Lib.hid hnext
          have HL9 := Lib.hid hlen9
          have HLA := Lib.hid hlast
          clear hx hown9 hgrow9 hfr9 hv1 hv2 hv4 HV1 HV2 HV3 HS6 HS5 HS1 HO5 HUL hnext hlen9 hlast
          go_roundw
          case rel => exact ⟨k + 1, _, e, by omega, by go_num, HNX.out, HL9.out, HLA.out, HGE.out, Lib.hid (by rw [← hre.out, HDR.out]; rfl)⟩
          case measure => simp [intOf]; omega
      · obtain rfl : k = ls.length := by omega
        have hre2 := hre.out
        rw [List.drop_length] at hre2
        obtain ⟨Au, cu, rfl⟩ := hsh.form
        have HS := Lib.hid hsh
        have HE2 : Hid (res = (all, 0, 0)) := Lib.hid hre2.symm
        clear hsh hre2
        go_wp2
        refine bodyPost_ret (v := .tuple #[.slice Au all.length cu, .int .i64 0, .int .i64 0]) (by simp [results, Try.results12, go_sem]) rfl ?_
        rw [HE2.out]
        exact ⟨Au, cu, rfl, HS.out.rows, HS.out.bel⟩
end Go.Proofs.Ytkileiikffomlaa
