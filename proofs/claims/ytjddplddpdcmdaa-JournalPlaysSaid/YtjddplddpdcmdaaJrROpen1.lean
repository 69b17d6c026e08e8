/- The reader of a slot's head beside the journal in memory. -/
import Derived.Test.YtjddplddpdcmdaaJrRM
import Derived.Test.YtjddplddpdcmdaaReader4
import Derived.Test.YtjddplddpdcmdaaJrRead
import Derived.Test.YtjddplddpdcmdaaJrRCommit
import Derived.Test.YtjddplddpdcmdaaJrCrc
namespace Go.Proofs.Ytjddplddpdcmdaa
open Go.RowKit
set_option linter.unusedVariables false
set_option linter.unusedSimpArgs false

section
variable {w0 w W W' w1 w2 : World} {ds ds' : List (Nat × Dk)} {bs bs' : List (Nat × TypeId × List Value)} {rs rs' rs0 : List (Nat × Value × List Value)} {p g : Nat} {r r' : Rk} {v : Value}
set_option maxHeartbeats 1600000 in
set_option maxRecDepth 100000 in
theorem rread_bel (h : RM w0 W ds p r bs rs0) (i : Int) (res : List UInt8 × Int) (hr : r.read i = res) : Calls Try.prog 40 #[.pointer (some ⟨p, 0, none⟩), .int .i64 i] W fun en W' => ∃ A n c, en = .returned (.tuple #[.slice A n c, .int .i64 res.2]) ∧ Below W.heap.size W W' ∧ ReadsIn 1 (fun i => W.heap.size ≤ i) W' (.slice A n c) (bytesV res.1) := by
  have HH := Lib.hid h
  obtain ⟨sv, wv, rs, h1, h2, h3⟩ := h
  obtain ⟨⟨A, c, rfl⟩, Aw, cw, rfl⟩ := h3.form h2
  have hb := h2.blk (.head _)
  have k0 := hb.cell 0
  have k1 := hb.cell 1
  have k4 := hb.cell 4
  have hp := hb.lt
  simp only [rcells, List.getElem?_cons_zero, List.getElem?_cons_succ] at k0 k1 k4
  have hm9 := h3.logMax h2
  obtain ⟨n, hn⟩ : ∃ n, r.sure.length = n := ⟨_, rfl⟩
  obtain ⟨m, hm⟩ : ∃ m, r.log.length = m := ⟨_, rfl⟩
  obtain ⟨dn, hd⟩ : ∃ d, r.down = d := ⟨_, rfl⟩
  have HR := Lib.hid hr
  have HD := Lib.hid hd
  rw [hn] at k0 h2
  rw [hm] at k1 h2 hm9
  rw [hd] at k4
  have HI : Hid (r.hasI i = (decide (0 ≤ i) && decide (i < (n : Int)))) := Lib.hid (by rw [← hn]; rfl)
  rw [hn, hm] at h3
  have H1 := Lib.hid h1
  have H2 := Lib.hid h2
  have H3 := Lib.hid h3
  have HN := Lib.hid hn
  have HM := Lib.hid hm
  clear h1 h2 h3 hb hn hm hd hr
  by_cases hi0 : i < 0
  · have t0 : decide (i < 0) = true := by simp; omega
    have HW : Hid (res = ([], 1)) := Lib.hid (by rw [← HR.out]; unfold Rk.read; rw [HI.out, if_neg (by simp; omega)])
    go_enter Try.func40, Try.ntmps40
    go_wp2
    refine bodyPost_ret (v := .tuple #[.slice none 0 0, .int .i64 1]) (by simp [results, Try.results40, go_sem]) rfl ?_
    rw [HW.out]
    exact ⟨none, 0, 0, rfl, Below.refl _ _, ReadsIn.nil_ _ _⟩
  · have t0 : decide (i < 0) = false := by simp; omega
    by_cases hi1 : (n : Int) ≤ i
    · have t1 : decide ((n : Int) ≤ i) = true := by simp; omega
      have HW : Hid (res = ([], 1)) := Lib.hid (by rw [← HR.out]; unfold Rk.read; rw [HI.out, if_neg (by simp; omega)])
      go_enter Try.func40, Try.ntmps40
      go_wp2
      refine bodyPost_ret (v := .tuple #[.slice none 0 0, .int .i64 1]) (by simp [results, Try.results40, go_sem]) rfl ?_
      rw [HW.out]
      exact ⟨none, 0, 0, rfl, Below.refl _ _, ReadsIn.nil_ _ _⟩
    · have t1 : decide ((n : Int) ≤ i) = false := by simp; omega
      obtain ⟨j, rfl⟩ : ∃ j : Nat, i = j := ⟨i.toNat, by omega⟩
      have hj : j < n := by omega
      cases dn with
      | true =>
        have HW : Hid (res = ([], 9)) := Lib.hid (by rw [← HR.out]; unfold Rk.read; rw [HI.out, HD.out, if_pos (by simp; omega)]; rfl)
        go_enter Try.func40, Try.ntmps40
        go_wp2
        refine bodyPost_ret (v := .tuple #[.slice none 0 0, .int .i64 9]) (by simp [results, Try.results40, go_sem]) rfl ?_
        rw [HW.out]
        exact ⟨none, 0, 0, rfl, Below.refl _ _, ReadsIn.nil_ _ _⟩
      | false =>
        obtain ⟨x, hx⟩ : ∃ x, r.sure[j]? = some x := ⟨r.sure[j]'(by rw [HN.out]; exact hj), List.getElem?_eq_getElem _⟩
        have HW : Hid (res = (lastL j r.log x, 0)) := Lib.hid (by
          rw [← HR.out]; unfold Rk.read; rw [HI.out, HD.out, if_pos (by simp; omega)]
          rw [List.getD_eq_getElem?_getD, Int.toNat_natCast, hx]; rfl)
        have HLL : Hid ((lastL j r.log x).length = 64) := Lib.hid (lastL_len j r.log x (fun e he => (H3.out.ok.log e he).2) (H3.out.ok.sure x (List.mem_of_getElem? hx)))
        obtain ⟨svs, hs1, hs2⟩ := H3.out.sure
        obtain ⟨ps, hp1, hp2⟩ := H3.out.log
        obtain ⟨v, hv, hvr⟩ := hs2.2 j x hx
        obtain ⟨U, hU, hrd⟩ := H2.out.reads hs1
        obtain ⟨g, o, c', e1, _, hg, _, hcell⟩ := hrd.at1 hv
        injection e1 with e1 e2 e3
        subst e1 e3
        obtain ⟨Av, cv, rfl⟩ := H2.out.form1 hvr
        have i0 : (0 : Int) ≤ (j : Int) := by omega
        have i1 : (j : Int) < (n : Int) := by omega
        have HP1 := Lib.hid hp1
        have HP2 := Lib.hid hp2
        have HVR : Hid ((1, Value.slice Av x.length cv, bytesV (lastL j (r.log.take 0) x)) ∈ rs) := Lib.hid hvr
        clear hs1 hs2 hp1 hp2 hU hrd hx hv hvr e2
        go_enter Try.func40, Try.ntmps40
        go_wp2
        go_loopw [36, 6] (fun i b wr => ∃ (k : Nat) (v : Value), k ≤ m ∧ i = .int .i64 k ∧ b = v ∧ Hid ((1, v, bytesV (lastL j (r.log.take k) x)) ∈ rs) ∧ Hid (DM w0 wr ds ((p, 79, rcells (.slice (some ⟨g, o, none⟩) n c) (.slice Aw m cw) r) :: bs) rs) ∧ Hid (Below W.heap.size W wr)) (fun i _ _ => m - (intOf i).toNat)
        case atStart => exact ⟨0, _, by omega, rfl, rfl, HVR, H2, Lib.hid (Below.refl _ _)⟩
        case round =>
          obtain ⟨k, v, hk, rfl, hbv, hvr, hdm, hbel⟩ := hrel
          have hbv2 := hbv.symm
          subst hbv2
          clear hbv
          clear HVR k0 k1 k4 hcell
          by_cases hlt : k < m
          · obtain ⟨e, he⟩ : ∃ e, r.log[k]? = some e := ⟨r.log[k]'(by rw [HM.out]; exact hlt), List.getElem?_eq_getElem _⟩
            obtain ⟨ve, hve, hver⟩ := HP2.out.2 k e he
            obtain ⟨U, hU, hrd⟩ := hdm.out.reads HP1.out
            obtain ⟨gw, ow, cw', e1, _, hgw, q0, q1⟩ := hrd.at2 hve
            injection e1 with e1 e2 e3
            subst e1 e3
            obtain ⟨Ae, ce, rfl⟩ := hdm.out.form1 hver
            simp only at q0 q1
            have HVE := Lib.hid hver
            have HT : Hid (r.log.take (k + 1) = r.log.take k ++ [e]) := Lib.hid (by rw [List.take_add_one, he]; rfl)
            have D2 := Lib.hid (hdm.out.below (((Below.refl wr.heap.size wr).alloc (Nat.le_refl _) (.cells #[.int .i64 (e.1 : Int), .slice Ae e.2.length ce] 88))))
            have B2 := Lib.hid (hbel.out.alloc hbel.out.size (.cells #[.int .i64 (e.1 : Int), .slice Ae e.2.length ce] 88))
            have i2 : (0 : Int) ≤ (k : Int) := by omega
            have i3 : (k : Int) < (m : Int) := by omega
            clear he hve hver hU hrd e2 hdm
            by_cases heq : e.1 = j
            · have t2 : ((e.1 : Int) == (j : Int)) = true := by simp; omega
              have HLN : Hid (lastL j (r.log.take (k + 1)) x = e.2) := Lib.hid (by rw [HT.out, lastL_snoc, if_pos heq])
              clear heq
              go_wp2
              go_roundw
              case rel => exact ⟨k + 1, _, by omega, by go_num, rfl, Lib.hid (by rw [HLN.out]; exact HVE.out), D2, B2⟩
              case measure => simp [intOf]; omega
            · have t2 : ((e.1 : Int) == (j : Int)) = false := by simp; omega
              have HLN : Hid (lastL j (r.log.take (k + 1)) x = lastL j (r.log.take k) x) := Lib.hid (by rw [HT.out, lastL_snoc, if_neg heq])
              clear heq
              go_wp2
              go_roundw
              case rel => exact ⟨k + 1, _, by omega, by go_num, rfl, Lib.hid (by rw [HLN.out]; exact hvr.out), D2, B2⟩
              case measure => simp [intOf]; omega
          · obtain rfl : k = m := by omega
            have HVR : Hid ((1, v, bytesV (lastL j r.log x)) ∈ rs) := Lib.hid (by have := hvr.out; rwa [List.take_of_length_le (by rw [HM.out]; exact Nat.le_refl _)] at this)
            have HRV := Lib.hid (hdm.out.reads1 HVR.out)
            generalize lastL j r.log x = y at HW HLL HVR HRV
            clear hvr
            go_wp2_with (at_builtin; refine wpList_extend elem_byteR _ rfl (.const (.slice none 0 0)) (.tmp 47) rfl wr.heap.size 0 (.slice none 0 0) [] rfl (World.ownsRow_nil _ _ _ _) wr.heap.size _ (bytesV y) rfl HRV.out (bytesV_one _) (by rw [length_bytesV, HLL.out]; unfold maxLen; omega) (by rw [length_bytesV, HLL.out]; omega) (Nat.le_refl _) ?_; intro A' c' w1 hown hgrow hfr; rw [length_bytesV, HLL.out] at hown ⊢)
            refine bodyPost_ret (v := .tuple #[.slice A' 64 c', .int .i64 0]) (by simp [results, Try.results40, go_sem]) rfl ?_
            rw [HW.out]
            rw [Nat.zero_add, List.nil_append] at hown
            have hbw := (Below.refl wr.heap.size wr).grown hgrow (Nat.le_refl _) (fun k hk => by cases hk)
            exact ⟨A', 64, c', rfl, hbel.out.trans (hbw.mono hbel.out.size), own_readsIn (T := fun i => W.heap.size ≤ i) (by omega) hown (fun i hi => Nat.le_trans hbel.out.size (hown.lt i hi).1)⟩
end
end Go.Proofs.Ytjddplddpdcmdaa
namespace Go.Proofs.Ytjddplddpdcmdaa
set_option linter.unusedVariables false

/-- sectors from f on, one behind another -/
def gatherX (s : Dk) (f k : Nat) : List UInt8 := ((List.range k).map fun i => s.now.getD (f + i) []).flatten
/-- the journal after so many slots were read -/
def stJ (s : Dk) (σ : Nat) : Jr := if σ = 0 then freshJ s else if σ = 1 then stepJ (freshJ s) 0 (readJ s (s.now.length / 2) 0) else foundJ s
theorem gatherX_succ (s : Dk) (f k : Nat) : gatherX s f (k + 1) = gatherX s f k ++ s.now.getD (f + k) [] := by
  simp [gatherX, List.range_succ]
theorem gatherX_head (s : Dk) (f : Nat) : ∀ k, gatherX s f (k + 1) = s.now.getD f [] ++ gatherJ s f k
  | 0 => by simp [gatherX, gatherJ]
  | k + 1 => by rw [gatherX_succ, gatherX_head s f k, gather_succ, List.append_assoc, show f + (k + 1) = f + 1 + k by omega]
theorem gather_take {s : Dk} (h : s.Ok) {f m M n : Nat} (hm : m ≤ M) (hM : f + M < s.now.length) (hn : n ≤ m * 64) : (gatherJ s f M).take n = (gatherJ s f m).take n := by
  induction M with
  | zero => rw [show m = 0 by omega]
  | succ M ih =>
    by_cases he : m = M + 1
    · rw [he]
    · rw [gather_succ, List.take_append_of_le_length (by rw [gather_len h M (by omega)]; have := Nat.mul_le_mul_right 64 (show m ≤ M by omega); omega)]
      exact ih (by omega) (by omega)
theorem gatherX_len {s : Dk} (h : s.Ok) {f k : Nat} (hk : f + k ≤ s.now.length) : (gatherX s f k).length = k * 64 := by
  induction k with
  | zero => simp [gatherX]
  | succ k ih =>
    rw [gatherX_succ, List.length_append, ih (by omega), h.at64 (by omega)]
    omega
theorem readJ_all {s : Dk} (h : s.Ok) {hf f σ : Nat} {a : List UInt8} (h2 : 2 ≤ hf) (hf2 : f + hf ≤ s.now.length) (hσ : σ * hf = f) (ha : gatherX s f hf = a) :
    readJ s hf σ = if a.take 4 = [112, 100, 103, 113] ∧ (a.drop 20).take 44 = List.replicate 44 0 ∧ deB ((a.drop 16).take 4) = crcN (a.take 16) ∧ 1 ≤ deB ((a.drop 4).take 4) ∧ deB ((a.drop 8).take 4) ≤ (hf - 1) * 64 ∧ deB ((a.drop 12).take 4) = crcN ((a.drop 64).take (deB ((a.drop 8).take 4))) then ((a.drop 64).take (deB ((a.drop 8).take 4)), deB ((a.drop 4).take 4)) else ([], 0) := by
  obtain ⟨x, hx⟩ : ∃ x, s.now.getD f [] = x := ⟨_, rfl⟩
  have hxl : x.length = 64 := by rw [← hx]; exact h.at64 (by omega)
  obtain ⟨M, rfl⟩ : ∃ M, hf = M + 1 := ⟨hf - 1, by omega⟩
  rw [gatherX_head, hx] at ha
  have hGl := gather_len (s := s) h (f := f) M (by omega)
  obtain ⟨G, hG⟩ : ∃ G, gatherJ s f M = G := ⟨_, rfl⟩
  rw [hG] at ha hGl
  subst ha
  have t : ∀ k, k ≤ 64 → (x ++ G).take k = x.take k := fun k hk => List.take_append_of_le_length (by omega)
  have d : ∀ i k, i + k ≤ 64 → ((x ++ G).drop i).take k = (x.drop i).take k := fun i k hk => by
    rw [List.drop_append_of_le_length (by omega), List.take_append_of_le_length (by rw [List.length_drop]; omega)]
  have e20 : (x.drop 20).take 44 = x.drop 20 := List.take_of_length_le (by rw [List.length_drop]; omega)
  rw [t 4 (by omega), t 16 (by omega), d 20 44 (by omega), d 16 4 (by omega), d 12 4 (by omega), d 8 4 (by omega), d 4 4 (by omega), e20, List.drop_left' hxl]
  obtain ⟨n, hn⟩ : ∃ n, deB ((x.drop 8).take 4) = n := ⟨_, rfl⟩
  obtain ⟨g, hg⟩ : ∃ n, deB ((x.drop 4).take 4) = n := ⟨_, rfl⟩
  rw [hn, hg]
  by_cases hr : n ≤ M * 64
  · have hs : secsN n ≤ M := by unfold secsN; omega
    have hbb : (gatherJ s (σ * (M + 1)) (secsN n)).take n = G.take n := by
      rw [hσ, ← hG]
      exact (gather_take h hs (by omega) (by unfold secsN; omega)).symm
    exact readJ_ref h (by rw [hσ]; exact hx) hxl hg hn hbb (fun _ => by rw [List.length_take, hGl]; omega)
  · have hr' : ¬ n ≤ (M + 1 - 1) * 64 := by rw [Nat.add_sub_cancel]; exact hr
    rw [readJ_ref h (by rw [hσ]; exact hx) hxl hg hn rfl (fun h => absurd h hr'), if_neg (fun hc => hr' hc.2.2.2.2.1), if_neg (fun hc => hr' hc.2.2.2.2.1)]
theorem stJ_succ (s : Dk) {hf σ : Nat} (h : s.now.length / 2 = hf) (hσ : σ < 2) : stJ s (σ + 1) = stepJ (stJ s σ) σ (readJ s hf σ) := by
  rcases Nat.le_one_iff_eq_zero_or_eq_one.1 (show σ ≤ 1 by omega) with rfl | rfl
  · unfold stJ; rw [← h]; rfl
  · unfold stJ foundJ; rw [← h]; rfl
end Go.Proofs.Ytjddplddpdcmdaa
namespace Go.Proofs.Ytjddplddpdcmdaa
open Go.RowKit
set_option linter.unusedVariables false

theorem takes_some {bs : List UInt8} {k : Nat} (h0 : 0 < k) (h : k ≤ bs.length) : takeOut bs 0 (k : Int) = bs.take k ∧ takeLeft bs 0 (k : Int) = bs.drop k ∧ takeErr bs 0 (k : Int) = 0 := by
  unfold takeOut takeLeft takeErr
  rw [if_neg (by omega), if_neg (by omega), if_neg (by omega), if_neg (by omega), if_neg (by omega), if_neg (by omega)]
  simp
theorem run_str_r {w : World} {B : Nat} {v : Value} {bs : List UInt8} (h : Reads w B v (bytesV bs)) : (convert 31 9 v).run Try.prog w = .ok (.string ⟨bs.toArray⟩) w :=
  run_string 31 9 5 Try.underlying31 Try.underlying5 Try.underlying9 h
section
variable {w0 wq W W' : World} {ds : List (Nat × Dk)} {bs : List (Nat × TypeId × List Value)} {rs : List (Nat × Value × List Value)} {p k g o m c c' B : Nat} {r : Rk} {v : Value} {A A' : Option Addr} {l l' a : List UInt8} {j : Jr}
theorem KM.read (h : KM w0 W ds p r k j bs rs) {sz : Nat} {xs : List Value} (hb : Below W.heap.size W W') (hr : ReadsIn sz (fun i => W.heap.size ≤ i) W' v xs) : KM w0 W' ds p r k j bs ((sz, v, xs) :: rs) := by
  obtain ⟨bv, h1, h2⟩ := h
  exact ⟨bv, h1.read hb hr, .tail _ h2⟩
/-- the reader behind the world wq -/
def SQ (wq W : World) (A : Option Addr) (c : Nat) (l : List UInt8) : Prop := Below wq.heap.size wq W ∧ wq.heap.size < W.heap.size ∧ Rd 84 W wq.heap.size A c l 0
theorem SQ.start (h : Reads wq B (.slice (some ⟨g, o, none⟩) m c) (bytesV a)) (hB : B ≤ wq.heap.size) (hm : 20 ≤ m) (hl : a.length = m) : SQ wq (wq.alloc (.cells #[.slice (some ⟨g, o, none⟩) 20 c, .int .i64 0] 84)) (some ⟨g, o, none⟩) c (a.take 20) := by
  have h2 := h.firsts (k := 20) hm
  rw [show (bytesV a).take 20 = bytesV (a.take 20) from List.map_take.symm] at h2
  have hl2 : (a.take 20).length = 20 := by rw [List.length_take]; omega
  have hb := (Below.refl wq.heap.size wq).alloc (Nat.le_refl _) (.cells #[.slice (some ⟨g, o, none⟩) 20 c, .int .i64 0] 84)
  refine ⟨hb, by rw [World.size_alloc]; omega, ?_, ?_, Lib.hid (fun h0 a9 ha => ?_)⟩
  · rw [hl2]
    exact Blk.fresh _ _ _
  · rw [hl2]
    exact (h2.below (hb.mono hB)).more (by rw [World.size_alloc]; omega)
  · injection ha with ha
    subst ha
    obtain ⟨A9, n9, c9, e, hl9, _, _, hat⟩ := h2
    injection e with e1 e2 e3
    obtain ⟨g9, o9, e9, hg9, _⟩ := hat.out (by omega)
    rw [← e1] at e9
    injection e9 with e9
    injection e9 with e9 _ _
    show g ≠ _
    omega
theorem SQ.next (h : SQ wq W A c l) (hr : Rd 84 W' wq.heap.size A' c' l' 0) (ho : Off (fun i => i = wq.heap.size) W W') : SQ wq W' A' c' l' :=
  ⟨h.1.trans (ho.below (Nat.le_of_lt h.2.1) (fun i hi => by omega)), Nat.lt_of_lt_of_le h.2.1 ho.size, hr⟩
theorem rraw4_any (h : SQ wq W A c l) (h4 : 4 ≤ l.length) (hl : l.length ≤ 20) : Calls Try.prog 41 #[.pointer (some ⟨wq.heap.size, 0, none⟩), .int .i64 4] W fun en W' => ∃ A9 c9 A' c', en = .returned (.slice A9 4 c9) ∧ Reads W' W'.heap.size (.slice A9 4 c9) (bytesV (l.take 4)) ∧ SQ wq W' A' c' (l.drop 4) := by
  have t := rtake_any W wq.heap.size A c l 0 (4 : Nat) (.inl rfl) h.2.2 (by omega)
  obtain ⟨e1, e2, e3⟩ := takes_some (bs := l) (k := 4) (by omega) h4
  rw [e1, e2, e3] at t
  refine t.mono ?_
  rintro en w2 ⟨A9, c9, A1, c1, rfl, hown, hrd, hA, ho⟩
  have hl4 : (l.take 4).length = 4 := by rw [List.length_take]; omega
  rw [hl4] at hown ⊢
  exact ⟨A9, c9, A1, c1, rfl, Reads.of_own hown, h.next hrd ho⟩
theorem rq32_any (h : SQ wq W A c l) (h4 : 4 ≤ l.length) (hl : l.length ≤ 20) : Calls Try.prog 42 #[.pointer (some ⟨wq.heap.size, 0, none⟩)] W fun en W' => en = .returned (.int .u32 ((deB (l.take 4) : Nat) : Int)) ∧ ∃ A' c', SQ wq W' A' c' (l.drop 4) := by
  have t := mu32_any W wq.heap.size A c l 0 (.inl rfl) h.2.2 (by omega)
  obtain ⟨e1, e2, e3⟩ := takes_some (bs := l) (k := 4) (by omega) h4
  rw [show (4 : Int) = ((4 : Nat) : Int) from rfl, e1, e2, e3] at t
  refine t.mono ?_
  rintro en w2 ⟨rfl, A1, c1, hrd, hA, ho⟩
  exact ⟨rfl, A1, c1, h.next hrd ho⟩
theorem all_part (h : Reads W B (.slice (some ⟨g, o, none⟩) m c) (bytesV a)) {i n : Nat} (hin : i + n ≤ m) : Reads W B (.slice (some ⟨g, o + i, none⟩) n (c - i)) (bytesV ((a.drop i).take n)) := by
  have h2 := (h.others (k := i) (by omega) (o + i) (fun _ => rfl)).firsts (k := n) (by omega)
  rw [show ((bytesV a).drop i).take n = bytesV ((a.drop i).take n) by unfold bytesV; rw [List.map_take, List.map_drop]] at h2
  exact h2
theorem byte_zero (x : UInt8) : (x == 0) = decide (x.toNat = 0) := by
  by_cases h : x.toNat = 0
  · rw [decide_eq_true h]
    exact beq_iff_eq.2 (UInt8.toNat_inj.1 h)
  · rw [decide_eq_false h]
    exact beq_eq_false_iff_ne.2 (fun e => h (by rw [e]; rfl))
theorem all_zero {z : List UInt8} {n : Nat} (h : z.length = n) : z.all (· == 0) = decide (z = List.replicate n 0) := by
  by_cases h1 : z = List.replicate n 0
  · rw [decide_eq_true h1, h1]
    simp
  · rw [decide_eq_false h1]
    refine Bool.eq_false_iff.2 (fun h2 => h1 (List.eq_replicate_iff.2 ⟨h, fun b hb => ?_⟩))
    exact beq_iff_eq.1 (List.all_eq_true.1 h2 b hb)
theorem deB_lt4 {l : List UInt8} (h : l.length ≤ 4) : deB l < 4294967296 := by
  have h1 := deB_lt l.length l rfl
  have h2 : 256 ^ l.length ≤ 256 ^ 4 := Nat.pow_le_pow_right (by omega) h
  have h3 : (256 : Nat) ^ 4 = 4294967296 := by decide
  omega
end
end Go.Proofs.Ytjddplddpdcmdaa
