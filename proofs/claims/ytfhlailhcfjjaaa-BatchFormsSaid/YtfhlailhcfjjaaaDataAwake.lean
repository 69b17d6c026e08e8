/- pedagoguelaw22.awake; what Decode tells as a dataset. -/
import Derived.Test.YtfhlailhcfjjaaaDataInvP
import Derived.Test.YtfhlailhcfjjaaaDataDec
import Derived.Test.YtfhlailhcfjjaaaDataEnc
import Derived.Outline
namespace Go.Proofs.Ytfhlailhcfjjaaa
open Go.RowKit
set_option linter.unusedVariables false
set_option linter.unusedSimpArgs false

/-- what Decode tells, as a dataset -/
def DecUse (w : World) (bs : List UInt8) (en : Ending) (w' : World) : Prop :=
  Below w.heap.size w w' ∧ ∃ (xs : List ExV) (A : Option Addr) (c : Nat), en = .returned (.tuple #[.agg #[.int .i64 (decode bs).2.1.a, .int .i64 (decode bs).2.1.b, .int .i64 (decode bs).2.1.c, .int .i64 (decode bs).2.1.exp, .int .i64 (decode bs).2.1.cl, .slice A xs.length c], .int .i64 (decode bs).1]) ∧
    xs.map (fun e => (e.data, e.label)) = (decode bs).2.2 ∧ ExsOf w' w'.heap.size (.slice A xs.length c) xs
theorem datOf_in (bs : List UInt8) (v : Value) (xs : List ExV) : inW (datOf bs v xs).a ∧ inW (datOf bs v xs).b ∧ inW (datOf bs v xs).c ∧ inW (datOf bs v xs).exp ∧ inW (datOf bs v xs).cl := by
  obtain ⟨h1, h2, h3, h4, h5⟩ := decode_nums bs
  unfold datOf inW
  simp only
  omega
theorem ddec_use (v : Value) (bs : List UInt8) (w : World) (B : Nat) (hB : B ≤ w.heap.size) (h : Reads w B v (bytesV bs)) (hl : bs.length ≤ 140737488351232) : Calls Try.prog 19 #[v] w (DecUse w bs) := by
  refine (ddec_any v bs w B hB h hl).mono ?_
  rintro en w' ⟨hb, xs, lv, rfl, hx, hown, hex⟩
  obtain ⟨A, c, rfl⟩ := own_form hown
  refine ⟨hb, xs, A, c, rfl, hx, ReadsN.of_own (by omega) hown, Lib.hid (fun e he => ?_), ⟨A, c, rfl⟩, ?_⟩
  · obtain ⟨h1, h2, h3, h4⟩ := (decode_read bs).1 (e.data, e.label) (by rw [← hx]; exact List.mem_map.2 ⟨e, he, rfl⟩)
    simp only at h1 h2 h3 h4
    exact ⟨Reads.of_own (hex e he), by unfold inW; omega, h1, by omega⟩
  · have := (decode_read bs).2
    rw [← hx, List.length_map] at this
    omega
def aw22 (Ad A : Option Addr) : DatV := ⟨1, 1, 2, 0, 2, .slice A 1 1, [⟨.slice Ad 2 2, [3, -4], 1⟩]⟩
theorem aw22_may (Ad A : Option Addr) : mayD (aw22 Ad A) = true := by rfl
theorem aw22_len (Ad A : Option Addr) : (encD (aw22 Ad A)).length = 14 := by rfl
theorem aw22_dec (Ad A : Option Addr) : decode (encD (aw22 Ad A)) = (0, ⟨1, 1, 2, 0, 2, .slice none 0 0, []⟩, [([3, -4], 1)]) := by
  have h := decode_ok (aw22_may Ad A) (by intro e he y hy; simp only [aw22, List.mem_singleton] at he; subst he; simp at hy; omega) []
  rw [List.append_nil, if_pos rfl] at h
  exact h
set_option maxRecDepth 100000 in
set_option maxHeartbeats 1600000 in
theorem awake22_any (w : World) : Calls Try.prog 17 #[] w fun en w' => en = .returned (.bool true) ∧ Below w.heap.size w w' := by
  have hd : DataOf ((w.alloc (.cells #[.int .i8 3, .int .i8 (-4)] 52)).alloc (.cells #[.slice (some ⟨w.heap.size, 0, none⟩) 2 2, .int .i64 1] 45)) (w.heap.size + 2)
      (.agg #[.int .i64 1, .int .i64 1, .int .i64 2, .int .i64 0, .int .i64 2, .slice (some ⟨w.heap.size + 1, 0, none⟩) 1 1]) (aw22 (some ⟨w.heap.size, 0, none⟩) (some ⟨w.heap.size + 1, 0, none⟩)) := by
    have k1 := Blk.fresh w 52 [.int .i8 3, .int .i8 (-4)]
    have k2 := Blk.fresh (w.alloc (.cells #[.int .i8 3, .int .i8 (-4)] 52)) 45 [.slice (some ⟨w.heap.size, 0, none⟩) 2 2, .int .i64 1]
    have k3 := k1.alloc (.cells #[.slice (some ⟨w.heap.size, 0, none⟩) 2 2, .int .i64 1] 45)
    refine ⟨rfl, by simp [aw22, inW], ?_, Lib.hid (fun e he => ?_), ⟨_, _, rfl⟩, by simp [aw22]⟩
    · have := k2.readsN (sz := 2) (n := 1) rfl (by unfold maxLen; omega)
      simp only [World.size_alloc] at this
      exact this
    · simp only [aw22, List.mem_singleton] at he
      subst he
      refine ⟨?_, by simp [inW], by simp, by simp⟩
      have := k3.reads (n := 2) rfl (by unfold maxLen; omega)
      simp only [World.size_alloc] at this
      exact this
  have HD := Lib.hid hd
  have HM := Lib.hid (aw22_may (some ⟨w.heap.size, 0, none⟩) (some ⟨w.heap.size + 1, 0, none⟩))
  have HL := Lib.hid (aw22_len (some ⟨w.heap.size, 0, none⟩) (some ⟨w.heap.size + 1, 0, none⟩))
  have HC := Lib.hid (aw22_dec (some ⟨w.heap.size, 0, none⟩) (some ⟨w.heap.size + 1, 0, none⟩))
  clear hd
  go_enter Try.func17, Try.ntmps17
  go_wp2_with fail
  refine (denc_any _ _ _ (w.heap.size + 2) (by simp) HD.out).mono ?_
  rintro en w1 ⟨hb1, ⟨hm, _⟩ | ⟨_, A1, c1, rfl, hown⟩⟩
  · rw [HM.out] at hm; cases hm
  · rw [HL.out] at hown ⊢
    have HB1 := Lib.hid (((Below.refl w.heap.size w).alloc (Nat.le_refl _) _).alloc (by simp) _ |>.trans (hb1.mono (by simp; omega)))
    have HR := Lib.hid (Reads.of_own hown)
    clear hb1 hown
    go_wp2_with fail
    refine (ddec_use _ _ w1 w1.heap.size (Nat.le_refl _) HR.out (by rw [HL.out]; omega)).mono ?_
    rintro en w2 ⟨hb2, xs, A2, c2, rfl, hx, hex⟩
    rw [HC.out] at hx ⊢
    have HB2 := Lib.hid (HB1.out.trans (hb2.mono HB1.out.size))
    obtain ⟨x, rfl⟩ : ∃ x, xs = [x] := List.length_eq_one_iff.1 (by have := congrArg List.length hx; simpa using this)
    simp only [List.map_cons, List.map_nil, List.cons.injEq, and_true, Prod.mk.injEq] at hx
    obtain ⟨_, hx2⟩ := hx
    obtain ⟨g, o, c3, e, e1, e2, e3, hg, q0, q1⟩ := hex.at_ (k := 0) (by simp)
    simp only [List.getElem?_cons_zero, Option.some.injEq] at e2
    subst e2
    rw [hx2] at q1
    simp only [List.length_cons, List.length_nil, Nat.zero_add, Nat.zero_mul, Nat.add_zero] at e1 q0 q1 ⊢
    injection e1 with e1 _ e4
    subst e1 e4
    have H2 := HB2.out.size
    have HF := Lib.hid (HB2.out.alloc H2 (.cells #[.int .i64 1, .int .i64 1, .int .i64 2, .int .i64 0, .int .i64 2, .slice (some ⟨g, o, none⟩) 1 c2] 33))
    clear hx2 hex e3 hb2 HR HD HM HC HL
    go_wp2
    go_ret
    exact ⟨rfl, HF.out⟩
end Go.Proofs.Ytfhlailhcfjjaaa
