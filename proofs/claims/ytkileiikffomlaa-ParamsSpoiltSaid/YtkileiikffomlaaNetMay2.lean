/- Contract of model.May. -/
import Derived.Test.YtkileiikffomlaaNetMay
namespace Go.Proofs.Ytkileiikffomlaa
open Go.RowKit
set_option linter.unusedVariables false
set_option linter.unusedSimpArgs false

/-- a row of layers -/
structure LaysOf (w : World) (B : Nat) (v : Value) (ls : List LayV) : Prop where
  rd : ReadsN 7 w B v (ls.flatMap LayV.cells)
  ok : Hid (∀ l ∈ ls, l.ok)
  form : ∃ A c, v = .slice A ls.length c
  len : ls.length ≤ 140737488351232
section
variable {w w' : World} {B B' : Nat} {v : Value} {ls : List LayV}
theorem LaysOf.below (h : LaysOf w B v ls) (hb : Below B w w') : LaysOf w' B v ls := ⟨h.rd.below hb, h.ok, h.form, h.len⟩
theorem LaysOf.drewN (h : LaysOf w B v ls) (n : Nat) : LaysOf (w.drewN n) B v ls := ⟨h.rd.keep fun _ _ => rfl, h.ok, h.form, h.len⟩
theorem LaysOf.more (h : LaysOf w B v ls) (hB : B ≤ B') : LaysOf w B' v ls := by
  obtain ⟨A, n, c, e, hl, hc, hm, ha⟩ := h.rd
  refine ⟨⟨A, n, c, e, hl, hc, hm, fun hn => ?_⟩, h.ok, h.form, h.len⟩
  obtain ⟨g, o, hA, hg, hx⟩ := ha.out hn
  exact ⟨g, o, hA, by omega, hx⟩
theorem LaysOf.at_ (h : LaysOf w B v ls) {k : Nat} (hk : k < ls.length) :
    ∃ g o c l, v = .slice (some ⟨g, o, none⟩) ls.length c ∧ ls[k]? = some l ∧ l.ok ∧ g < B ∧
      (w.cell? ⟨g, o + k * 7, none⟩ = some (.int .i64 l.kind) ∧ w.cell? ⟨g, o + k * 7 + 1, none⟩ = some (.int .i64 l.out) ∧ w.cell? ⟨g, o + k * 7 + 2, none⟩ = some (.int .i64 l.k) ∧ w.cell? ⟨g, o + k * 7 + 3, none⟩ = some (.int .i64 l.stride) ∧
       w.cell? ⟨g, o + k * 7 + 4, none⟩ = some (.int .i64 l.pad) ∧ w.cell? ⟨g, o + k * 7 + 5, none⟩ = some (.int .i64 l.frm) ∧ w.cell? ⟨g, o + k * 7 + 6, none⟩ = some (.bool l.frozen)) := by
  obtain ⟨A, n, c, e, hl, hc, hm, ha⟩ := h.rd
  obtain ⟨A', c', e'⟩ := h.form
  rw [e] at e'
  injection e' with e1 e2 e3
  subst e1 e2 e3
  obtain ⟨g, o, rfl, hg, hx⟩ := ha.out (by omega)
  have hlk : ls[k]? = some ls[k] := List.getElem?_eq_getElem hk
  have hfl : ∀ j, j < 7 → (ls.flatMap LayV.cells)[k * 7 + j]? = (LayV.cells ls[k])[j]? := fun j hj => flat_at LayV.cells 7 ls (fun p _ => rfl) k j _ hlk hj
  have q := fun j (hj : j < 7) u (hu : (LayV.cells ls[k])[j]? = some u) => hx (k * 7 + j) u ((hfl j hj).trans hu)
  exact ⟨g, o, c, ls[k], e, hlk, h.ok.out _ (List.getElem_mem hk), hg, q 0 (by omega) _ rfl, q 1 (by omega) _ rfl, q 2 (by omega) _ rfl, q 3 (by omega) _ rfl, q 4 (by omega) _ rfl, q 5 (by omega) _ rfl, q 6 (by omega) _ rfl⟩
end

set_option maxHeartbeats 3200000 in
set_option maxRecDepth 100000 in
theorem mMay_any (a b c : Int) (v : Value) (ls : List LayV) (w : World) (B : Nat) (hB : B ≤ w.heap.size) (h : LaysOf w B v ls) (r : Bool) (hr : mayM a b c ls = r) :
    Calls Try.prog 30 #[.agg #[.int .i64 a, .int .i64 b, .int .i64 c, v]] w fun en w' => en = .returned (.bool r) ∧ Below w.heap.size w w' := by
  obtain ⟨A, cc, rfl⟩ := h.form
  have hlen := h.len
  have HL := Lib.hid h
  have HR := Lib.hid hr
  obtain ⟨e1, h1⟩ : ∃ x, entersI a b c = x := ⟨_, rfl⟩
  obtain ⟨e2, h2⟩ : ∃ x, inI (ls.length : Int) 1 12 = x := ⟨_, rfl⟩
  have HE := Lib.hid (menters_any a b c e1 h1)
  have HI := Lib.hid (min_any (ls.length : Int) 1 12 e2 h2)
  have HQ : Hid (mayM a b c ls = (e1 && (e2 && mayLs ls 0))) := Lib.hid (by unfold mayM; rw [h1, h2])
  have H12 : Hid (e2 = true → ls.length ≤ 12) := Lib.hid (fun he => by rw [he] at h2; have := inI_of h2; omega)
  have hb0 := Lib.hid (net_one w (.cells #[.int .i64 a, .int .i64 b, .int .i64 c, .slice A ls.length cc] 25))
  have hsz : w.heap.size < (w.alloc (.cells #[.int .i64 a, .int .i64 b, .int .i64 c, .slice A ls.length cc] 25)).heap.size := by simp
  have k3 : (w.alloc (.cells #[.int .i64 a, .int .i64 b, .int .i64 c, .slice A ls.length cc] 25)).cell? ⟨w.heap.size, 3, none⟩ = some (.slice A ls.length cc) := (Blk.fresh w 25 [.int .i64 a, .int .i64 b, .int .i64 c, .slice A ls.length cc]).cell 3
  clear h hr h1 h2
  go_enter Try.func30, Try.ntmps30
  go_wp2_with fail
  generalize (w.alloc (.cells #[.int .i64 a, .int .i64 b, .int .i64 c, .slice A ls.length cc] 25)) = w1 at hb0 hsz k3 ⊢
  refine (HE.out _).mono ?_
  rintro en w2 ⟨rfl, hb2⟩
  have k3' : w2.cell? ⟨w.heap.size, 3, none⟩ = some (.slice A ls.length cc) := (hb2.cell (p := ⟨w.heap.size, 3, none⟩) hsz).trans k3
  have HB2 := Lib.hid (hb0.out.trans (hb2.mono (by omega)))
  clear k3 hb2 hsz hb0
  cases e1 with
  | false =>
    go_wp2
    go_ret
    exact ⟨by rw [← HR.out, HQ.out]; rfl, HB2.out⟩
  | true =>
    cases e2 with
    | false =>
      go_wp2_with (go_at_call 57; (with_reducible refine (HI.out _).mono ?_); rintro en w3 ⟨rfl, rfl⟩)
      go_ret
      exact ⟨by rw [← HR.out, HQ.out]; rfl, HB2.out⟩
    | true =>
      have h12 := H12.out rfl
      go_wp2_with (go_at_call 57; (with_reducible refine (HI.out _).mono ?_); rintro en w3 ⟨rfl, rfl⟩)
      go_loopw [19] (fun i wr => ∃ k : Nat, k ≤ ls.length ∧ i = .int .i64 k ∧ Hid (mayLs (ls.take k) 0 = true) ∧ Below w.heap.size w wr) (fun i _ => ls.length - (intOf i).toNat)
      case atStart => exact ⟨0, by omega, rfl, Lib.hid rfl, HB2.out⟩
      case round =>
        clear HB2 k3'
        obtain ⟨k, hk, rfl, hmk, hwr⟩ := hrel
        by_cases hlt : k < ls.length
        · obtain ⟨g, o, c', l, e1, hlk, hok, hg, q0, q1, q2, q3, q4, q5, q6⟩ := (HL.out.below (hwr.mono hB)).at_ hlt
          injection e1 with e1 _ e3
          subst e1 e3
          have hsz := hwr.size
          have hal := net_one wr (.cells #[.int .i64 l.kind, .int .i64 l.out, .int .i64 l.k, .int .i64 l.stride, .int .i64 l.pad, .int .i64 l.frm, .bool l.frozen] 43)
          have HB3 := Lib.hid (hwr.trans (hal.mono hsz))
          obtain ⟨m, hm⟩ : ∃ m, mayL l (k : Int) = m := ⟨_, rfl⟩
          have HM := Lib.hid (mmay_any l.kind l.out l.k l.stride l.pad l.frm l.frozen (k : Int) (by omega) (by omega) m hm)
          have HT := Lib.hid (mayLs_take ls 0 k l hlk)
          have HF := Lib.hid (mayLs_false ls 0 k l hlk)
          have HMM := Lib.hid hm
          clear hwr hal hlk hok hm
          obtain ⟨x0, x1, x2, x3, x4, x5, x6⟩ := l
          dsimp only at q0 q1 q2 q3 q4 q5 q6 HB3 HM
          cases m with
          | false =>
            go_wp2_with (go_at_call 58; refine (HM.out _).mono ?_; rintro en w3 ⟨rfl, hb3⟩)
            go_ret
            refine ⟨?_, HB3.out.trans (hb3.mono HB3.out.size)⟩
            rw [← HR.out, HQ.out, HF.out (by rw [Int.zero_add]; exact HMM.out)]
            rfl
          | true =>
            go_wp2_with fail
            refine (HM.out _).mono ?_
            rintro en w3 ⟨rfl, hb3⟩
            have HB4 := Lib.hid (HB3.out.trans (hb3.mono HB3.out.size))
            clear hb3
            go_wp2
            go_roundw
            case rel => exact ⟨k + 1, by omega, by go_num, Lib.hid (by rw [HT.out, hmk.out, Int.zero_add, HMM.out]; rfl), HB4.out⟩
            case measure => simp [intOf]; omega
        · have HW := Lib.hid hwr
          clear hwr
          go_wp2
          go_ret
          refine ⟨?_, HW.out⟩
          rw [← HR.out, HQ.out]
          have := hmk.out
          rw [List.take_of_length_le (by omega)] at this
          rw [this]
          rfl
end Go.Proofs.Ytkileiikffomlaa
