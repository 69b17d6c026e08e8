/- Contract of unit.like. -/
import Derived.Test.YthdahnjghpiheaaStep
import Derived.Deep.RegionLaw
import Derived.WalkSpells
namespace Go.Proofs.Ythdahnjghpiheaa
open Go.RowKit
set_option linter.unusedVariables false

/-- a tensor -/
def GivesOneT (w : World) (dims : List Int) (exp : Int) (data : List Int) (en : Ending) (w' : World) : Prop :=
  ∃ dv xv, en = .returned (.agg #[dv, .int .i64 exp, xv]) ∧ w'.ownsRow w.heap.size 3 1 dv dims.length (ints .i64 dims) ∧ w'.ownsRow w.heap.size 34 1 xv data.length (ints .i8 data) ∧ Below w.heap.size w w'
/-- a function value hands back these numbers, and does no more -/
def Hands (cv : Value) (ys : List Int) (w : World) : Prop :=
  ∀ (k : Nat) (u : Int) (w' : World), ys[k]? = some u → Below w.heap.size w w' → Calls Try.prog 36 #[.int .i64 k, cv] w' (fun en w'' => en = .returned (.int .i8 u) ∧ w' = w'')

theorem like_fin {w : World} {b q B0 : Nat} {dv xv : Value} {exp : Int} {d6 : Value} {dims : List Int} {u : Value} {ys : List Int} {wr : World} (h : LikeI w b q B0 dv xv exp d6 dims u ys wr) (u0 u1 u2 : Value)
    (db : Hid (∀ x ∈ dims, -9223372036854775808 ≤ x ∧ x ≤ 9223372036854775807)) (xb : Hid (∀ x ∈ ys, -128 ≤ x ∧ x ≤ 127)) (e0 : -9223372036854775808 ≤ exp) (e1 : exp ≤ 9223372036854775807) :
    GivesOneT w dims exp ys (.returned (.agg #[d6, .int .i64 exp, u])) (((wr.setCell ⟨b + 1, 0, none⟩ u0).setCell ⟨b + 1, 1, none⟩ u1).setCell ⟨b + 1, 2, none⟩ u2) := by
  have hoff := off_set3 wr (b + 1) u0 u1 u2
  have hb := h.wb
  have q0 := h.q0
  have q1 := h.q1
  have g6 := own_off h.dim hoff (fun k hk he => by have := (h.dim.lt k hk).1; omega)
  have g7 := own_off h.own hoff (fun k hk he => by have := h.ulow hk; omega)
  refine ⟨_, _, rfl, own_lower g6 (by omega), own_lower g7 (by omega), ?_⟩
  rw [hb]
  exact h.bel.trans (hoff.below (by have := h.sz; omega) (fun i hi => by omega))

set_option maxHeartbeats 1600000 in
set_option maxRecDepth 100000 in
theorem like_any (dims : List Int) (exp : Int) (data : List Int) (dv xv : Value) (cv : Value) (ys : List Int) (w : World) (B : Nat) (hB : B ≤ w.heap.size) (h : IsT w B dv xv dims exp data) (hl : ys.length = data.length) (hy : ∀ x ∈ ys, -128 ≤ x ∧ x ≤ 127)
    (ld : dims.length * 8 ≤ 140737488355328) (lx : data.length ≤ 140737488355000) (hf : Hands cv ys w) :
    Calls Try.prog 35 #[.agg #[dv, .int .i64 exp, xv], .func (.func 36) #[] #[cv]] w (GivesOneT w dims exp ys) := by
  have hb0 := two_alloc0 w (.cells #[dv, .int .i64 exp, xv] 25) (.cells #[.slice none 0 0, .int .i64 0, .slice none 0 0] 25)
  have hI0 := h.below (hb0.mono hB)
  obtain ⟨A, c, rfl, _, _⟩ := h.d.form
  obtain ⟨A', c', rfl, _, _⟩ := h.x.form
  simp only [length_ints] at *
  have K1 := Lib.hid ((Blk.fresh w 25 [.slice A dims.length c, .int .i64 exp, .slice A' data.length c']).alloc (.cells #[.slice none 0 0, .int .i64 0, .slice none 0 0] 25))
  have K2 := Lib.hid (Blk.fresh (w.alloc (.cells #[.slice A dims.length c, .int .i64 exp, .slice A' data.length c'] 25)) 25 [.slice none 0 0, .int .i64 0, .slice none 0 0])
  have HB0 := Lib.hid hb0
  have HI := Lib.hid hI0
  have HF := Lib.hid hf
  have HY := Lib.hid hy
  have HL := Lib.hid hl
  clear hb0 hI0 h hf hy hl
  go_enter Try.func35, Try.ntmps35
  go_wp2_with fail
  have hs : ((w.alloc (.cells #[.slice A dims.length c, .int .i64 exp, .slice A' data.length c'] 25)).alloc (.cells #[.slice none 0 0, .int .i64 0, .slice none 0 0] 25)).heap.size = w.heap.size + 2 := by simp
  generalize ((w.alloc (.cells #[.slice A dims.length c, .int .i64 exp, .slice A' data.length c'] 25)).alloc (.cells #[.slice none 0 0, .int .i64 0, .slice none 0 0] 25)) = wA at hs K1 K2 HB0 HI ⊢
  simp only [World.size_alloc] at K2
  have r0 : wA.cell? ⟨w.heap.size, 0, none⟩ = some (.slice A dims.length c) := K1.out.cell 0
  have r1 : wA.cell? ⟨w.heap.size, 1, none⟩ = some (.int .i64 exp) := K1.out.cell 1
  have HS := Lib.hid hs
  have hBA : B ≤ wA.drew.heap.size := Nat.le_trans hB HB0.out.size
  have hBB : B ≤ ((wA.alloc (.cells #[.slice none 0 0, .int .i64 0, .slice none 0 0] 25)).drew).heap.size := Nat.le_trans hBA (by simp)
  have HD5 := Lib.hid (HI.out.d.drew)
  have HK5 := Lib.hid (K1.out.drew)
  have hm5 := (Blk.freshA wA 25 #[.slice none 0 0, .int .i64 0, .slice none 0 0]).drew
  rw [hs] at hm5
  have M5 := Lib.hid hm5
  clear hm5
  have HBW : Hid (B ≤ wA.heap.size) := Lib.hid hBA
  have HBA := Lib.hid hBA
  have HBB := Lib.hid hBB
  clear hBA hBB
  go_region_held3 (fun w' => w'.cell? ⟨w.heap.size, 0, none⟩ = some (.slice A dims.length c) ∧ w'.cell? ⟨w.heap.size, 1, none⟩ = some (.int .i64 exp)) (first | (go_keep; done) | exact ⟨c50, c51⟩ | exact ⟨((HK5.out.alloc _).cell 0), ((HK5.out.alloc _).cell 1)⟩) (first
    | (go_at_call 33; (with_reducible refine (clone_int wA.drew B _ dims HD5.out HBA.out ld).mono ?_); rintro e5 w5 ⟨A6, c6, rfl, hown6, hb6⟩; have k5 := HK5.out.below hb6 HK5.out.lt; have c50 : w5.cell? ⟨w.heap.size, 0, none⟩ = some (.slice A dims.length c) := k5.cell 0; have c51 : w5.cell? ⟨w.heap.size, 1, none⟩ = some (.int .i64 exp) := k5.cell 1; have HK := Lib.hid k5; clear k5; have HO6 := Lib.hid hown6; have HW6 := Lib.hid hb6; clear hown6 hb6)
    | (go_at_call 33; (with_reducible refine (clone_int ((wA.alloc (.cells #[.slice none 0 0, .int .i64 0, .slice none 0 0] 25)).drew) B _ dims ((HI.out.d.alloc (B := B) HBW.out _).drew) HBB.out ld).mono ?_); rintro e5 w5 ⟨A6, c6, rfl, hown6, hb6⟩; have k5 := (K1.out.alloc _).drew.below hb6 (K1.out.alloc _).lt; have c50 : w5.cell? ⟨w.heap.size, 0, none⟩ = some (.slice A dims.length c) := k5.cell 0; have c51 : w5.cell? ⟨w.heap.size, 1, none⟩ = some (.int .i64 exp) := k5.cell 1; have m5 := M5.out.below hb6 M5.out.lt; have x0 := m5.cell 0; have x1 := m5.cell 1; have x2 := m5.cell 2; have y0 := m5.free 0; have y1 := m5.free 1; have y2 := m5.free 2; have HK := Lib.hid k5; have HM := Lib.hid m5; clear k5 m5; have HO6 := Lib.hid hown6; have HW6 := Lib.hid hb6; clear hown6 hb6))
  all_goals
    first
      | (have hst := LikeI.start1 rfl HS.out K2.out HB0.out HK.out HO6.out HW6.out; clear HK HO6 HW6 c50 c51; generalize (w5.alloc (.cells #[.slice A6 dims.length c6, .int .i64 exp, .slice none 0 0] 25)) = W at hst ⊢; generalize W.heap.size = B0 at hst; generalize w5.heap.size = q at hst ⊢)
      | (have hst := LikeI.start2 _ rfl HS.out K2.out HB0.out HK.out HM.out HO6.out HW6.out; clear HK HO6 HW6 HM c50 c51 x0 x1 x2 y0 y1 y2; generalize (((w5.setCell ⟨w.heap.size + 2, 0, none⟩ (.slice A6 dims.length c6)).setCell ⟨w.heap.size + 2, 1, none⟩ (.int .i64 exp)).setCell ⟨w.heap.size + 2, 2, none⟩ (.slice none 0 0)) = W at hst ⊢; generalize w5.heap.size = B0 at hst; generalize w.heap.size + 2 = q at hst ⊢)
    have b2 : W.cell? ⟨w.heap.size, 2, none⟩ = some (.slice A' data.length c') := hst.box.cell 2
    have HST := Lib.hid hst
    clear hst r0 r1 K1 K2 HS HB0 HD5 HK5 M5 HBW HBA HBB
    go_wp2_with fail
    go_loopw [16] (fun i wr => ∃ (k : Nat) (u : Value), k ≤ data.length ∧ i = .int .i64 k ∧ LikeI w w.heap.size q B0 (.slice A dims.length c) (.slice A' data.length c') exp (.slice A6 dims.length c6) dims u (ys.take k) wr) (fun i _ => data.length - (intOf i).toNat)
    case atStart => exact ⟨0, _, by omega, rfl, by simpa using HST.out⟩
    case round =>
      obtain ⟨k, u, hk, rfl, hwr⟩ := hrel
      by_cases hlt : k < data.length
      · have hlen := HL.out
        obtain ⟨y, hyk⟩ : ∃ y, ys[k]? = some y := ⟨ys[k], List.getElem?_eq_getElem (by omega)⟩
        have hnx : ys.take (k + 1) = ys.take k ++ [y] := by rw [List.take_add_one, hyk]; rfl
        have hlen1 : (ys.take k).length + 1 ≤ 140737488355328 := by rw [List.length_take]; omega
        generalize ys.take k = zs at hnx hwr hlen1
        have hc : wr.cell? ⟨q, 2, none⟩ = some u := hwr.out.cell 2
        have hf := hwr.out.free 2
        have hne : some q ≠ u.ownBlock := fun he => by have := hwr.ulow he.symm; have := hwr.q1; omega
        have hk63 : (k : Int) ≤ 9223372036854775807 := by omega
        have HC := Lib.hid (HF.out k y wr.drew hyk hwr.bel.drew)
        have HNX := Lib.hid hnx
        have HWR := Lib.hid hwr
        have hB2 : B0 ≤ wr.heap.size := hwr.sz
        have hqs := hwr.out.lt
        clear hnx hyk hlen hwr
        go_wp2_with fail
        go_region_law (first
          | (refine step_calls _ (by rfl) _ _ 36 cv _ (.int .i8 y) (by rfl) (by rfl) (by rfl) (fun _ _ => rfl) HC.out ?_)
          | (refine step_extend elem_i8 _ (by rfl) _ _ (by rfl) B0 _ u _ (by rfl) ((HWR.out.own.alloc _).drew) _ _ [_] (by rfl) (Reads.one_ wr _ _).drew (by simp [Value.oneCell']) (by simp only [List.length_cons, List.length_nil, maxLen]; omega) (by simp only [List.length_cons, List.length_nil]; omega) (by simp; omega) ?_; intro A9 c9 w1 hown hgrow hfr'; have hbk := (HWR.out.out.alloc _).drew.grown hgrow hne; have hc1 : w1.cell? ⟨q, 2, none⟩ = some u := hbk.cell 2; have hf1 := hbk.free 2))
        all_goals
          have hl2 := HWR.out.next hgrow hown
          rw [← HNX.out] at hl2
          clear hc hf hc1 hf1 hne hgrow hown hbk hfr' HWR HNX HC
          go_wp2
          go_roundw
          case rel => exact ⟨k + 1, _, by omega, by go_num, hl2⟩
          case measure => simp [intOf]; omega
      · obtain rfl : k = data.length := by omega
        rw [List.take_of_length_le (by have := HL.out; omega)] at hwr
        obtain ⟨Au, cu, rfl⟩ := own_form hwr.own
        have g0 : wr.cell? ⟨q, 0, none⟩ = some (.slice A6 dims.length c6) := hwr.out.cell 0
        have g1 : wr.cell? ⟨q, 1, none⟩ = some (.int .i64 exp) := hwr.out.cell 1
        have g2 : wr.cell? ⟨q, 2, none⟩ = some (.slice Au ys.length cu) := hwr.out.cell 2
        have z0 : wr.cell? ⟨w.heap.size + 1, 0, none⟩ = some (.slice none 0 0) := hwr.res.cell 0
        have z1 : wr.cell? ⟨w.heap.size + 1, 1, none⟩ = some (.int .i64 0) := hwr.res.cell 1
        have z2 : wr.cell? ⟨w.heap.size + 1, 2, none⟩ = some (.slice none 0 0) := hwr.res.cell 2
        have y0 := hwr.res.free 0
        have y1 := hwr.res.free 1
        have y2 := hwr.res.free 2
        have HWR := Lib.hid hwr
        clear hwr
        go_wp2
        refine bodyPost_ret (v := .agg #[.slice A6 dims.length c6, .int .i64 exp, .slice Au ys.length cu]) (by simp [results, Try.results35, go_sem, z0, z1, z2]) rfl ?_
        exact like_fin HWR.out _ _ _ HI.out.db HY HI.out.e0 HI.out.e1
end Go.Proofs.Ythdahnjghpiheaa
