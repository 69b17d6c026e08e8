/- Contracts of check.planes, check.gives. -/
import Derived.Test.YtkileiikffomlaaNetOut
import Derived.Test.YtkileiikffomlaaSlices
namespace Go.Proofs.Ytkileiikffomlaa
open Go.RowKit
set_option linter.unusedVariables false
set_option linter.unusedSimpArgs false

theorem q_leftN {P : Program} {f : FuncId} {args : Array Value} {w : World} {n : Nat} {v : Value} (h : Calls P f args (w.drewN n) fun e w' => e = .returned v ∧ w.drewN n = w') :
    Calls P f args (w.drewN n) fun e w'' => e = .returned v ∧ ∃ m, w'' = w.drewN m := h.mono fun _ _ ⟨he, hm⟩ => ⟨he, n, hm.symm⟩
theorem net_drewN {w wA : World} {B : Nat} (hb : Below B w wA) (m : Nat) : Below B w (wA.drewN m) := ⟨hb.os, hb.tape, hb.output, hb.size, hb.block⟩
def GNone (w : World) (en : Ending) (w' : World) : Prop := en = .returned (.slice none 0 0) ∧ Below w.heap.size w w'
def GSome (w : World) (e : List Int) (en : Ending) (w' : World) : Prop :=
  ∃ g c, en = .returned (.slice (some ⟨g, 0, none⟩) e.length c) ∧ w'.ownsRow w.heap.size 3 1 (.slice (some ⟨g, 0, none⟩) e.length c) e.length (ints .i64 e) ∧ Below w.heap.size w w'
/-- lengths, or nothing -/
def Gave (w : World) : Option (List Int) → Ending → World → Prop
  | none => GNone w
  | some e => GSome w e
/-- a literal of numbers -/
theorem lit_gave {w w1 : World} {cs : List Value} {e : List Int} {n a : Nat} (hc : cs = ints .i64 e) (hn : e.length = n) (hl : n ≤ 8) (hb : Below w.heap.size w w1) (ha : w1.heap.size = a) :
    GSome w e (.returned (.slice (some ⟨a, 0, none⟩) n n)) (w1.alloc (.cells cs.toArray 3)) := by
  subst hc hn ha
  refine ⟨_, _, rfl, ?_, hb.alloc hb.size _⟩
  exact (Blk.fresh w1 3 (ints .i64 e)).ownAll (n := e.length) hb.size (by unfold maxLen; omega) (length_ints _ _)
theorem planesI_len {d : List Int} {c : Int} {l : LayV} (h : d.length ≠ 3) : planesI d c l = none := by
  unfold planesI
  split
  · simp at h
  · rfl

set_option maxHeartbeats 1600000 in
set_option maxRecDepth 100000 in
theorem planes_any (d : List Int) (dv : Value) (cc : Int) (kd out k st pd fr : Int) (fz : Bool) (w : World) (B : Nat) (hB : B ≤ w.heap.size) (h : Reads w B dv (ints .i64 d)) (hok : LayV.ok ⟨kd, out, k, st, pd, fr, fz⟩) (r : Option (List Int)) (hr : planesI d cc ⟨kd, out, k, st, pd, fr, fz⟩ = r) :
    Calls Try.prog 59 #[dv, .int .i64 cc, .agg #[.int .i64 kd, .int .i64 out, .int .i64 k, .int .i64 st, .int .i64 pd, .int .i64 fr, .bool fz]] w (Gave w r) := by
  obtain ⟨A, c, rfl, _, _⟩ := h.form
  simp only [length_ints] at *
  obtain ⟨_, _, hk, _, _, _⟩ := hok
  have hb0 := net_one w (.cells #[.int .i64 kd, .int .i64 out, .int .i64 k, .int .i64 st, .int .i64 pd, .int .i64 fr, .bool fz] 43)
  have HB0 := Lib.hid hb0
  by_cases h3 : d.length = 3
  · match d, h3 with
    | [x, a, b], _ =>
      simp only [List.length_cons, List.length_nil, Nat.zero_add, Nat.reduceAdd] at h ⊢
      have HO : Hid (∀ (n : Int) (W : World), Calls Try.prog 72 #[.int .i64 n, .int .i64 k, .int .i64 st, .int .i64 pd] W fun en w' => en = .returned (.int .i64 (outI n k st pd)) ∧ W = w') := Lib.hid (fun n W => sout_any n k st pd hk _ rfl W)
      have HR : Hid (r = if outI a k st pd = 0 ∨ outI b k st pd = 0 then none else some [cc, outI a k st pd, outI b k st pd]) := Lib.hid (by rw [← hr]; unfold planesI; simp only [])
      obtain ⟨AA, n1, c9, hva, hn1, hcc, hmm, ha⟩ := h
      injection hva with q1 q2 q3
      subst q1 q2 q3
      obtain ⟨g, o, rfl, hg, hx⟩ := ha.out (by omega)
      have z1 : (w.alloc (.cells #[.int .i64 kd, .int .i64 out, .int .i64 k, .int .i64 st, .int .i64 pd, .int .i64 fr, .bool fz] 43)).cell? ⟨g, o + 1, none⟩ = some (.int .i64 a) := (hb0.cell (p := ⟨g, o + 1, none⟩) (by show g < _; omega)).trans (hx 1 _ rfl)
      have z2 : (w.alloc (.cells #[.int .i64 kd, .int .i64 out, .int .i64 k, .int .i64 st, .int .i64 pd, .int .i64 fr, .bool fz] 43)).cell? ⟨g, o + 2, none⟩ = some (.int .i64 b) := (hb0.cell (p := ⟨g, o + 2, none⟩) (by show g < _; omega)).trans (hx 2 _ rfl)
      clear hr ha hx hb0 hn1 hcc hmm hg
      by_cases p0 : outI a k st pd = 0
      · have t1 : (outI a k st pd == 0) = true := by simpa using p0
        have HP0 := Lib.hid p0
        clear p0
        go_enter Try.func59, Try.ntmps59
        go_wp2_with fail
        go_quiet ((go_at_call 72; exact q_leftN (HO.out _ _)))
        go_wp2
        go_ret
        rw [HR.out, if_pos (.inl HP0.out)]
        exact ⟨rfl, net_drewN HB0.out _⟩
      · have t1 : (outI a k st pd == 0) = false := by simpa using p0
        have HP0 := Lib.hid p0
        clear p0
        by_cases q0 : outI b k st pd = 0
        · have t2 : (outI b k st pd == 0) = true := by simpa using q0
          have HQ0 := Lib.hid q0
          clear q0
          go_enter Try.func59, Try.ntmps59
          go_wp2_with fail
          go_quiet ((go_at_call 72; exact q_leftN (HO.out _ _)))
          go_wp2
          go_ret
          rw [HR.out, if_pos (.inr HQ0.out)]
          exact ⟨rfl, net_drewN HB0.out _⟩
        · have t2 : (outI b k st pd == 0) = false := by simpa using q0
          have HQ0 := Lib.hid q0
          clear q0
          go_enter Try.func59, Try.ntmps59
          go_wp2_with fail
          go_quiet ((go_at_call 72; exact q_leftN (HO.out _ _)))
          go_wp2
          go_ret
          rw [HR.out, if_neg (fun h => by rcases h with h | h; exact HP0.out h; exact HQ0.out h)]
          exact lit_gave (w := w) (cs := [.int .i64 cc, .int .i64 (outI a k st pd), .int .i64 (outI b k st pd)]) (e := [cc, outI a k st pd, outI b k st pd]) (n := 3) rfl rfl (by omega) (net_drewN HB0.out nq) (by show (w.alloc _).heap.size = _; simp)
  · have t1 : ((d.length : Int) != 3) = true := by simp; omega
    have HN := Lib.hid (planesI_len (c := cc) (l := ⟨kd, out, k, st, pd, fr, fz⟩) h3)
    have HR := Lib.hid hr
    clear h3 hr h hb0
    go_enter Try.func59, Try.ntmps59
    go_wp2
    go_ret
    rw [← HR.out, HN.out]
    exact ⟨rfl, HB0.out⟩
end Go.Proofs.Ytkileiikffomlaa
