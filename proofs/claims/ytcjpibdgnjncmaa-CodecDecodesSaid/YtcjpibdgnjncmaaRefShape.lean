/- Contracts of the reference's MayDims, Size, MayT. -/
import Derived.Test.YtcjpibdgnjncmaaTensor
namespace Go.Proofs.Ytcjpibdgnjncmaa
open Go.RowKit
set_option linter.unusedVariables false
set_option linter.unusedSimpArgs false

def prodGo : Int → List Int → Int
  | n, [] => n
  | n, x :: xs => prodGo (n * x) xs
theorem prod_of_size : ∀ (d : List Int) (n : Int), 1 ≤ n → n ≤ 8192 → 0 < sizeGo n d → prodGo n d = sizeGo n d
  | [], n, _, _, _ => rfl
  | x :: xs, n, h0, h1, h => by
    simp only [sizeGo, prodGo] at h ⊢
    split at h
    · omega
    · rename_i h2
      rw [if_neg h2]
      have h3 := prod_bound h0 h1 (by omega : 1 ≤ x) (by omega : x ≤ 4096)
      exact prod_of_size xs _ h3.1 (by omega) h

set_option maxRecDepth 100000 in
theorem maydims_any (d : List Int) (v : Value) (w : World) (B : Nat) (h : Reads w B v (ints .i64 d)) (hd : ∀ x ∈ d, -9223372036854775808 ≤ x ∧ x ≤ 9223372036854775807) :
    Calls Try.prog 62 #[v] w fun e w' => e = .returned (.bool (decide (0 < sizeI d))) ∧ w = w' := by
  obtain ⟨A, n, c, rfl, hl, hc, hm, hat⟩ := h
  rw [length_ints] at hl
  subst hl
  by_cases hbad : d.length < 1 ∨ 4 < d.length
  · have hs : decide (0 < sizeI d) = false := by unfold sizeI; rw [if_pos hbad]; rfl
    rw [hs]
    clear hs hat hd
    rcases hbad with hb | hb
    · have t1' : decide ((d.length : Int) < 1) = true := by simp; omega
      go_enter Try.func62, Try.ntmps62
      go_wp2
      go_ret
      exact ⟨rfl, rfl⟩
    · have t1' : decide ((d.length : Int) < 1) = false := by simp; omega
      have t2' : decide (4 < (d.length : Int)) = true := by simp; omega
      go_enter Try.func62, Try.ntmps62
      go_wp2
      go_ret
      exact ⟨rfl, rfl⟩
  · have hs : sizeI d = sizeGo 1 d := by unfold sizeI; rw [if_neg hbad]
    rw [hs]
    obtain ⟨S, hS⟩ : ∃ S, decide (0 < sizeGo 1 d) = S := ⟨_, rfl⟩
    rw [hS]
    have t1' : decide ((d.length : Int) < 1) = false := by simp; omega
    have t2' : decide (4 < (d.length : Int)) = false := by simp; omega
    have HD := Lib.hid hd
    have HSS := Lib.hid hS
    have hb1 : 1 ≤ d.length := by omega
    have hb4 : d.length ≤ 4 := by omega
    clear hs hd hbad hS
    go_enter Try.func62, Try.ntmps62
    go_wp2
    go_loop [3, 16] (fun x i => ∃ (k : Nat) (m : Int), k ≤ d.length ∧ i = .int .i64 k ∧ x = .int .i64 m ∧ 1 ≤ m ∧ m ≤ 8192 ∧ sizeGo m (d.drop k) = sizeGo 1 d) (fun _ i => d.length - (intOf i).toNat)
    case atStart => exact ⟨0, 1, by omega, rfl, rfl, by omega, by omega, by simp⟩
    case round =>
      obtain ⟨k, m, hk, rfl, rfl, hm0, hm1, hs⟩ := hrel
      by_cases hlt : k < d.length
      · obtain ⟨g, o, rfl, hg, hx⟩ := hat.out (by omega)
        have hc1 := hx k _ (ints_at .i64 d k hlt)
        have hbd := HD.out d[k] (List.getElem_mem hlt)
        rw [List.drop_eq_getElem_cons hlt] at hs
        generalize d[k] = x at hc1 hbd hs
        obtain ⟨hx0, hx1⟩ := hbd
        simp only [sizeGo] at hs
        clear hx hat
        by_cases h1 : x < 1
        · rw [if_pos (.inl h1)] at hs
          have HS : Hid (S = false) := Lib.hid (by rw [← HSS.out, ← hs]; rfl)
          clear hs
          have e1 : decide (x < 1) = true := by simpa using h1
          go_wp2
          go_ret
          rw [HS.out]
          exact ⟨rfl, rfl⟩
        · have e1 : decide (x < 1) = false := by simpa using h1
          by_cases h2 : 4096 < x
          · rw [if_pos (.inr (.inl h2))] at hs
            have HS : Hid (S = false) := Lib.hid (by rw [← HSS.out, ← hs]; rfl)
            clear hs
            have e2 : decide (4096 < x) = true := by simpa using h2
            go_wp2
            go_ret
            rw [HS.out]
            exact ⟨rfl, rfl⟩
          · have e2 : decide (4096 < x) = false := by simpa using h2
            have hp := prod_bound hm0 hm1 (by omega : 1 ≤ x) (by omega : x ≤ 4096)
            obtain ⟨hp0, hp1⟩ := hp
            have hne : ¬ x = 0 := by omega
            have hx1' : 1 ≤ x := by omega
            by_cases h3 : 8192 < m * x
            · rw [if_pos (.inr (.inr h3))] at hs
              have HS : Hid (S = false) := Lib.hid (by rw [← HSS.out, ← hs]; rfl)
              clear hs
              have e3 : decide (8192 / x < m) = true := by rw [decide_eq_true_iff]; exact (Int.ediv_lt_iff_lt_mul (by omega)).2 h3
              go_wp2
              go_ret
              rw [HS.out]
              exact ⟨rfl, rfl⟩
            · rw [if_neg (by omega)] at hs
              have HS := Lib.hid hs
              clear hs
              have e3 : decide (8192 / x < m) = false := by rw [decide_eq_false_iff_not]; exact fun h => h3 ((Int.ediv_lt_iff_lt_mul (by omega)).1 h)
              go_wp2
              go_round
              case rel => exact ⟨k + 1, m * x, by omega, by go_num, rfl, by omega, by omega, HS.out⟩
              case measure => simp [intOf]; omega
      · have hz : d.drop k = [] := List.drop_eq_nil_of_le (by omega)
        rw [hz] at hs
        have HS : Hid (S = true) := Lib.hid (by rw [← HSS.out, ← hs]; simp only [sizeGo]; exact decide_eq_true (by omega))
        clear hs hz
        go_wp2
        go_ret
        rw [HS.out]
        exact ⟨rfl, rfl⟩

set_option maxRecDepth 100000 in
theorem r1size_any (d : List Int) (v : Value) (w : World) (B : Nat) (h : Reads w B v (ints .i64 d)) (hd : ∀ x ∈ d, -9223372036854775808 ≤ x ∧ x ≤ 9223372036854775807) :
    Calls Try.prog 64 #[v] w fun e w' => e = .returned (.int .i64 (sizeI d)) ∧ w = w' := by
  have HS := Lib.hid (maydims_any d v w B h hd)
  obtain ⟨A, n, c, rfl, hl, hc, hm, hat⟩ := h
  rw [length_ints] at hl
  subst hl
  by_cases hp : 0 < sizeI d
  · have t1 : decide (0 < sizeI d) = true := by simpa using hp
    have hpg : prodGo 1 d = sizeI d := by
      unfold sizeI at hp ⊢
      split at hp
      · omega
      · rename_i h; rw [if_neg h]; exact prod_of_size d 1 (by omega) (by omega) hp
    have hgo : 0 < sizeGo 1 d ∧ d.length ≤ 4 := by
      unfold sizeI at hp
      split at hp
      · omega
      · exact ⟨hp, by omega⟩
    have HG := Lib.hid hgo.1
    have hl4 := hgo.2
    obtain ⟨S, hS⟩ : ∃ S, sizeI d = S := ⟨_, rfl⟩
    rw [hS] at hpg
    have HSE := Lib.hid hS
    rw [hS]
    have HP := Lib.hid hpg
    have T1 := Lib.hid t1
    clear hp hpg hd hS t1 hgo
    go_enter Try.func64, Try.ntmps64
    go_wp2_with fail
    refine HS.out.mono ?_; rintro e w' ⟨rfl, rfl⟩
    rw [T1.out]
    go_wp2
    go_loop [3, 11] (fun x i => ∃ (k : Nat) (m : Int), k ≤ d.length ∧ i = .int .i64 k ∧ x = .int .i64 m ∧ 1 ≤ m ∧ m ≤ 8192 ∧ 0 < sizeGo m (d.drop k) ∧ prodGo m (d.drop k) = S) (fun _ i => d.length - (intOf i).toNat)
    case atStart => exact ⟨0, 1, by omega, rfl, rfl, by omega, by omega, by simpa using HG.out, by simpa using HP.out⟩
    case round =>
      obtain ⟨k, m, hk, rfl, rfl, hm0, hm1, hs, hpr⟩ := hrel
      by_cases hlt : k < d.length
      · obtain ⟨g, o, rfl, hg, hx⟩ := hat.out (by omega)
        have hc1 := hx k _ (ints_at .i64 d k hlt)
        rw [List.drop_eq_getElem_cons hlt] at hs hpr
        generalize d[k] = x at hc1 hs hpr
        simp only [sizeGo, prodGo] at hs hpr
        split at hs
        · omega
        · rename_i h2
          have hp2 := prod_bound hm0 hm1 (by omega : 1 ≤ x) (by omega : x ≤ 4096)
          obtain ⟨hp0, hp1⟩ := hp2
          have hp3 : m * x ≤ 8192 := by omega
          have HR := Lib.hid hpr
          have HS2 := Lib.hid hs
          clear hx hat hs hpr h2
          go_wp2
          go_round
          case rel => exact ⟨k + 1, m * x, by omega, by go_num, rfl, by omega, by omega, HS2.out, HR.out⟩
          case measure => simp [intOf]; omega
      · have hz : d.drop k = [] := List.drop_eq_nil_of_le (by omega)
        rw [hz] at hpr
        have HR : Hid (m = S) := Lib.hid hpr
        clear hpr hs hz
        go_wp2
        go_ret
        rw [HR.out]
        exact ⟨rfl, rfl⟩
  · have t1 : decide (0 < sizeI d) = false := by simpa using hp
    have hz : sizeI d = 0 := by have := sizeI_bound d; omega
    have HZ := Lib.hid hz
    have T1 := Lib.hid t1
    clear t1 hp hz hd hat
    go_enter Try.func64, Try.ntmps64
    go_wp2_with fail
    refine HS.out.mono ?_; rintro e w' ⟨rfl, rfl⟩
    rw [T1.out]
    go_wp2
    go_ret
    rw [HZ.out]
    exact ⟨rfl, rfl⟩
theorem contains_take {xs : List Int} {k : Nat} {u x : Int} (h : (xs.take k).contains x = false) (hk : xs[k]? = some u) (hu : u ≠ x) : (xs.take (k + 1)).contains x = false := by
  rw [List.take_add_one, hk]
  simp at h ⊢
  exact ⟨h, fun e => hu e.symm⟩

set_option maxHeartbeats 1600000 in
set_option maxRecDepth 100000 in
theorem mayt_any (dims : List Int) (exp : Int) (data : List Int) (dv xv : Value) (w : World) (B : Nat) (hB : B ≤ w.heap.size) (h : IsT w B dv xv dims exp data) :
    Calls Try.prog 65 #[.agg #[dv, .int .i64 exp, xv]] w fun en w' => en = .returned (.bool (mayB dims exp data)) ∧ Below w.heap.size w w' := by
  have hb0 : Below w.heap.size w (w.alloc (.cells #[dv, .int .i64 exp, xv] 40)) := (Below.refl _ _).alloc (Nat.le_refl _) _
  have HI := Lib.hid (h.below (hb0.mono hB))
  have HB0 := Lib.hid hb0
  obtain ⟨A, c, rfl, _, _⟩ := h.d.form
  obtain ⟨A', c', rfl, _, hm⟩ := h.x.form
  have he0 := h.e0
  have he1 := h.e1
  have hsb := sizeI_bound dims
  obtain ⟨hs0, hs1⟩ := hsb
  rw [length_ints] at *
  rw [length_ints] at *
  have hxm : data.length ≤ 9223372036854775807 := by unfold maxLen at hm; omega
  clear h hb0 hm
  obtain ⟨S, hS⟩ : ∃ S, mayB dims exp data = S := ⟨_, rfl⟩
  rw [hS]
  have HS := Lib.hid hS
  clear hS
  by_cases p1 : 0 < sizeI dims
  · have t1 : decide (0 < sizeI dims) = true := by simpa using p1
    by_cases p2 : (data.length : Int) = sizeI dims
    · have t2 : ((data.length : Int) != sizeI dims) = false := by simpa using p2
      have P2 := Lib.hid p2
      clear p2
      by_cases p3 : -64 ≤ exp
      · have t3 : decide (exp < -64) = false := by simpa using p3
        by_cases p4 : exp ≤ 64
        · have t4 : decide (64 < exp) = false := by simpa using p4
          have HSE : Hid (S = !data.contains (-128)) := Lib.hid (by
            rw [← HS.out]; unfold mayB
            rw [t1, P2.out, beq_self_eq_true]
            have q3 : decide (-64 ≤ exp) = true := by simpa using p3
            have q4 : decide (exp ≤ 64) = true := by simpa using p4
            rw [q3, q4]; rfl)
          have T1 := Lib.hid t1
          go_enter Try.func65, Try.ntmps65
          go_wp2_with fail
          go_quiet (first
            | ((go_at_call 62; exact q_left ((maydims_any dims _ _ _ (HI.out.d.drewN _) HI.out.db.out))))
            | ((go_at_call 64; exact q_left ((r1size_any dims _ _ _ (HI.out.d.drewN _) HI.out.db.out)))))
          go_wp2
          have r2 : (w.alloc (.cells #[.slice A dims.length c, .int .i64 exp, .slice A' data.length c'] 40)).cell? ⟨w.heap.size, 2, none⟩ = some (.slice A' data.length c') := (Blk.fresh w 40 [.slice A dims.length c, .int .i64 exp, .slice A' data.length c']).cell 2
          generalize (w.alloc (.cells #[.slice A dims.length c, .int .i64 exp, .slice A' data.length c'] 40)) = wA at r2 HB0 HI ⊢
          go_loopw [31] (fun i wr => ∃ k : Nat, k ≤ data.length ∧ i = .int .i64 k ∧ (data.take k).contains (-128) = false ∧ ∃ m, wr = wA.drewN m) (fun i _ => data.length - (intOf i).toNat)
          case atStart => exact ⟨0, by omega, rfl, by simp, _, rfl⟩
          case round =>
            obtain ⟨k, hk, rfl, htk, m', rfl⟩ := hrel
            by_cases hlt : k < data.length
            · obtain ⟨AA, n, cc, hva, hn, hcc, hmm, ha⟩ := HI.out.x
              injection hva with q1 q2 q3
              subst q1 q2 q3
              obtain ⟨g, o, rfl, hg, hx⟩ := ha.out (by omega)
              have z1 := hx k (.int .i8 data[k]) (ints_at _ _ _ (by omega))
              obtain ⟨u, hx0⟩ : ∃ u, data[k] = u := ⟨_, rfl⟩
              rw [hx0] at z1
              have hxe : data[k]? = some u := by rw [List.getElem?_eq_getElem (by omega), hx0]
              have HX := Lib.hid hxe
              have HT := Lib.hid htk
              have i1 : (0 : Int) ≤ (k : Int) := by omega
              have i2 : (k : Int) < (data.length : Int) := by omega
              clear ha hx hx0 hxe htk hn hcc hmm hg
              by_cases huv : u = -128
              · subst huv
                have HQ : Hid (S = false) := Lib.hid (by
                  rw [HSE.out]
                  have := List.mem_of_getElem? HX.out
                  simpa using this)
                go_wp2
                go_ret
                rw [HQ.out]
                exact ⟨rfl, below_drewN HB0.out _⟩
              · have e2 : (u == -128) = false := by simpa using huv
                have HU := Lib.hid huv
                clear huv
                go_wp2
                go_roundw
                case rel => exact ⟨k + 1, by omega, by go_num, contains_take HT.out HX.out HU.out, _, rfl⟩
                case measure => simp [intOf]; omega
            · have HQ : Hid (S = true) := Lib.hid (by
                rw [HSE.out]
                rw [List.take_of_length_le (by omega)] at htk
                rw [htk]; rfl)
              clear htk
              go_wp2
              go_ret
              rw [HQ.out]
              exact ⟨rfl, below_drewN HB0.out _⟩
        · have t4 : decide (64 < exp) = true := by simp; omega
          have HQ : Hid (S = false) := Lib.hid (by
            rw [← HS.out]; unfold mayB
            have q4 : decide (exp ≤ 64) = false := by simpa using p4
            rw [q4]; simp)
          go_enter Try.func65, Try.ntmps65
          go_wp2_with fail
          go_quiet (first
            | ((go_at_call 62; exact q_left ((maydims_any dims _ _ _ (HI.out.d.drewN _) HI.out.db.out))))
            | ((go_at_call 64; exact q_left ((r1size_any dims _ _ _ (HI.out.d.drewN _) HI.out.db.out)))))
          go_wp2
          go_ret
          rw [HQ.out]
          exact ⟨rfl, below_drewN HB0.out _⟩
      · have t3 : decide (exp < -64) = true := by simp; omega
        have HQ : Hid (S = false) := Lib.hid (by
          rw [← HS.out]; unfold mayB
          have q4 : decide (-64 ≤ exp) = false := by simpa using p3
          rw [q4]; simp)
        go_enter Try.func65, Try.ntmps65
        go_wp2_with fail
        go_quiet (first
          | ((go_at_call 62; exact q_left ((maydims_any dims _ _ _ (HI.out.d.drewN _) HI.out.db.out))))
          | ((go_at_call 64; exact q_left ((r1size_any dims _ _ _ (HI.out.d.drewN _) HI.out.db.out)))))
        go_wp2
        go_ret
        rw [HQ.out]
        exact ⟨rfl, below_drewN HB0.out _⟩
    · have t2 : ((data.length : Int) != sizeI dims) = true := by simpa using p2
      have HQ : Hid (S = false) := Lib.hid (by
        rw [← HS.out]; unfold mayB
        have q4 : ((data.length : Int) == sizeI dims) = false := by simpa using p2
        rw [q4]; simp)
      clear p2
      go_enter Try.func65, Try.ntmps65
      go_wp2_with fail
      go_quiet (first
        | ((go_at_call 62; exact q_left ((maydims_any dims _ _ _ (HI.out.d.drewN _) HI.out.db.out))))
        | ((go_at_call 64; exact q_left ((r1size_any dims _ _ _ (HI.out.d.drewN _) HI.out.db.out)))))
      go_wp2
      go_ret
      rw [HQ.out]
      exact ⟨rfl, below_drewN HB0.out _⟩
  · have t1 : decide (0 < sizeI dims) = false := by simpa using p1
    have HQ : Hid (S = false) := Lib.hid (by
      rw [← HS.out]; unfold mayB
      rw [t1]; rfl)
    go_enter Try.func65, Try.ntmps65
    go_wp2_with fail
    go_quiet ((go_at_call 62; exact q_left ((maydims_any dims _ _ _ (HI.out.d.drewN _) HI.out.db.out))))
    go_wp2
    go_ret
    rw [HQ.out]
    exact ⟨rfl, below_drewN HB0.out _⟩
end Go.Proofs.Ytcjpibdgnjncmaa
