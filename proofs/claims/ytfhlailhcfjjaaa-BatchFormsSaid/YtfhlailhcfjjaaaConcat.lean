/- Contracts of slices.Grow (of nothing), slices.Concat (of two rows) at int. -/
import Derived.Test.YtfhlailhcfjjaaaSlices
import Derived.Test.YtfhlailhcfjjaaaOff
import Derived.Lib.AppendZeros
namespace Go.Proofs.Ytfhlailhcfjjaaa
open Go.RowKit
set_option linter.unusedVariables false
set_option linter.unusedSimpArgs false

theorem own_bel4 {w w' : World} {base n : Nat} {e : TypeId} {sz : Nat} {v : Value} {xs : List Value} (h : w.ownsRow base e sz v n xs) (hb : Below w.heap.size w w') : w'.ownsRow base e sz v n xs :=
  own_off h (Off.of_below (S := fun _ => False) hb (fun i h => .inr h)) (fun _ _ h => h)
def Room (w : World) (en : Ending) (w' : World) : Prop := (∃ A c, en = .returned (.slice A 0 c) ∧ w'.ownsRow w.heap.size 3 1 (.slice A 0 c) 0 []) ∧ Below w.heap.size w w'
theorem grow_any (w : World) (n : Nat) (h0 : 0 < n) (h1 : n ≤ 100000) : Calls Try.prog 73 #[.slice none 0 0, .int .i64 n] w (Room w) := by
  obtain ⟨i, hi, hz, hs, hb⟩ := info_parts elem_int.info
  have t1 : decide ((n : Int) < 0) = false := by simp
  have t2 : decide ((0 : Int) < (n : Int)) = true := by simp; omega
  have HR := Lib.hid (Lib.run_append_nil_zeros (P := Try.prog) w 24 3 24 3 i (.int .i64 0) .i64 .i64 Try.underlying24 Try.underlying3 hi hz n h0 (by omega) (by omega) (by rw [hb]; omega))
  have hge := grownCap_ge w n 0 3
  have hcm : grownCap w n 0 3 ≤ maxLen := grownCap_le_maxLen w n 0 3 (by unfold maxLen; omega)
  have HO := Lib.hid (World.ownsRow_made (e := 3) (size := 1) (base := w.heap.size) w.drew (Builtin.zeroCells (Value.int .i64 0).cells n ++ Builtin.zeroCells (Value.int .i64 0).cells (grownCap w n 0 3 - n)) (grownCap w n 0 3) (Nat.le_refl _) hcm (by simp only [Array.size_append, size_zeroCells]; show n * 1 + (grownCap w n 0 3 - n) * 1 = _; omega))
  have HB := Lib.hid ((Below.refl w.heap.size w).drew.alloc (Nat.le_refl _) (.cells (Builtin.zeroCells (Value.int .i64 0).cells n ++ Builtin.zeroCells (Value.int .i64 0).cells (grownCap w n 0 3 - n)) 3))
  generalize grownCap w n 0 3 = cap at hge hcm HR HO HB
  generalize (w.drew.alloc (.cells (Builtin.zeroCells (Value.int .i64 0).cells n ++ Builtin.zeroCells (Value.int .i64 0).cells (cap - n)) 3)) = W at HR HO HB
  have i1 : (0 : Int) ≤ (cap : Int) := by omega
  clear hi hz hs hb
  go_enter Try.func73, Try.ntmps73
  go_wp2_with (at_builtin; refine Lib.wpList_append_run _ rfl (.tmp 20) (.tmp 21) 24 3 rfl (.slice none 0 0) (.int .i64 n) rfl rfl _ _ HR.out ?_)
  go_ret
  exact ⟨⟨_, _, rfl, HO.out⟩, HB.out⟩
set_option maxHeartbeats 1600000 in
theorem concat_any (xs ys : List Int) (v1 v2 : Value) (g : Nat) (w : World) (B : Nat) (hB : B ≤ w.heap.size) (h1 : Reads w B v1 (ints .i64 xs)) (h2 : Reads w B v2 (ints .i64 ys)) (hk : Blk w g 24 [v1, v2]) (hx : 0 < xs.length) (hn : xs.length + ys.length ≤ 1000) :
    Calls Try.prog 54 #[.slice (some ⟨g, 0, none⟩) 2 2] w (New_int w (xs ++ ys)) := by
  obtain ⟨A1, c1, rfl, _, _⟩ := h1.form
  obtain ⟨A2, c2, rfl, _, _⟩ := h2.form
  simp only [length_ints] at h1 h2 hk
  have H1 := Lib.hid h1
  have H2 := Lib.hid h2
  have HK := Lib.hid hk
  have m0 := hk.cell 0
  have m1 := hk.cell 1
  have hl := hk.lt
  simp only [List.getElem?_cons_zero, List.getElem?_cons_succ] at m0 m1
  obtain ⟨a, ha⟩ : ∃ a, xs.length = a := ⟨_, rfl⟩
  obtain ⟨b, hb⟩ : ∃ b, ys.length = b := ⟨_, rfl⟩
  rw [ha] at m0 H1 hx hn HK
  rw [hb] at m1 H2 hn HK
  have HA := Lib.hid ha
  have HBB := Lib.hid hb
  clear h1 h2 hk ha hb
  go_enter Try.func54, Try.ntmps54
  go_wp2
  go_loopw [3, 11] (fun s i wr => (i = .int .i64 0 ∧ s = .int .i64 0 ∨ i = .int .i64 1 ∧ s = .int .i64 a ∨ i = .int .i64 2 ∧ s = .int .i64 ((a : Int) + (b : Int))) ∧ w = wr) (fun _ i _ => 2 - (intOf i).toNat)
  case atStart => exact ⟨.inl ⟨rfl, rfl⟩, rfl⟩
  case round =>
    obtain ⟨hr, rfl⟩ := hrel
    rcases hr with ⟨rfl, rfl⟩ | ⟨rfl, rfl⟩ | ⟨rfl, rfl⟩
    · go_wp2
      go_roundw
      case rel => exact ⟨.inr (.inl ⟨rfl, rfl⟩), trivial⟩
      case measure => simp [intOf]
    · go_wp2
      go_roundw
      case rel => exact ⟨.inr (.inr ⟨rfl, rfl⟩), trivial⟩
      case measure => simp [intOf]
    · have ie : IntKind.i64.wrap ((a : Int) + (b : Int)) = ((a + b : Nat) : Int) := by rw [IntWalk.i64_in _ (by omega)]; omega
      have ie2 : (a : Int) + (b : Int) = ((a + b : Nat) : Int) := by omega
      rw [ie2]
      clear ie ie2
      obtain ⟨n, hn'⟩ : ∃ n, a + b = n := ⟨_, rfl⟩
      rw [hn']
      have HN := Lib.hid hn'
      have hnn : 0 < n ∧ n ≤ 1000 := by omega
      obtain ⟨n0, n1⟩ := hnn
      clear hn'
      go_wp2_with fail
      refine (grow_any w n n0 (by omega)).mono ?_
      rintro en w2 ⟨⟨A3, c3, rfl, hown⟩, hb2⟩
      have O2 := Lib.hid hown
      have HB2 := Lib.hid hb2
      have HK2 := HK.out.below hb2 hl
      have m0 := HK2.cell 0
      have m1 := HK2.cell 1
      have l2 := HK2.lt
      simp only [List.getElem?_cons_zero, List.getElem?_cons_succ] at m0 m1
      have R1 := Lib.hid (H1.out.below (hb2.mono hB))
      have R2 := Lib.hid (H2.out.below (hb2.mono hB))
      have s2 := hb2.size
      have H1r := Lib.hid H1.out
      have H2r := Lib.hid H2.out
      clear hown hb2 HK2 H1 H2
      go_wp2
      clear m0 m1
      go_loopw [6, 27] (fun v i wx => ∃ (k : Nat) (A : Option Addr) (c : Nat) (zs : List Int), (k = 0 ∧ zs = [] ∨ k = 1 ∧ zs = xs ∨ k = 2 ∧ zs = xs ++ ys) ∧ i = .int .i64 k ∧ v = .slice A zs.length c ∧ Hid (wx.ownsRow w.heap.size 3 1 (.slice A zs.length c) zs.length (ints .i64 zs)) ∧ Hid (Below w.heap.size w wx)) (fun _ i _ => 2 - (intOf i).toNat)
      case atStart => exact ⟨0, A3, c3, [], .inl ⟨rfl, rfl⟩, rfl, rfl, O2, HB2⟩
      case round =>
        obtain ⟨k, A, c, zs, hz, rfl, rfl, hown, hbel⟩ := hrel
        have hsx := hbel.out.size
        have HKx := HK.out.below hbel.out hl
        have m0 := HKx.cell 0
        have m1 := HKx.cell 1
        have lx := HKx.lt
        simp only [List.getElem?_cons_zero, List.getElem?_cons_succ] at m0 m1
        have X1 := Lib.hid (H1r.out.below (hbel.out.mono hB))
        have X2 := Lib.hid (H2r.out.below (hbel.out.mono hB))
        clear HKx R1 R2
        rcases hz with ⟨rfl, rfl⟩ | ⟨rfl, rfl⟩ | ⟨rfl, rfl⟩
        · simp only [List.length_nil] at hown ⊢
          go_wp2_with (at_builtin; refine wpList_extend elem_int _ rfl (.tmp 31) (.tmp 32) rfl w.heap.size 0 _ _ rfl hown.out B _ (ints .i64 xs) rfl X1.out (ints_one _ _) (by rw [length_ints, HA.out]; unfold maxLen; omega) (by rw [length_ints, HA.out]; omega) hsx ?_; intro A9 c9 w9 hown9 hg9 hf9; simp only [length_ints, HA.out, Nat.zero_add] at hown9 ⊢)
          rw [ints_append, List.nil_append] at hown9
          have HB9 := Lib.hid (hbel.out.grown hg9 hsx (fun k hk => (hown.out.lt k hk).1))
          have HO9 := Lib.hid hown9
          clear hown9 hg9 hf9 m0 m1
          go_roundw
          case rel => exact ⟨1, A9, c9, xs, .inr (.inl ⟨rfl, rfl⟩), rfl, by rw [HA.out], by rw [HA.out]; exact HO9, HB9⟩
          case measure => simp [intOf]
        · rw [HA.out] at hown ⊢
          go_wp2_with (at_builtin; refine wpList_extend elem_int _ rfl (.tmp 31) (.tmp 32) rfl w.heap.size a _ _ rfl hown.out B _ (ints .i64 ys) rfl X2.out (ints_one _ _) (by rw [length_ints, HBB.out]; unfold maxLen; omega) (by rw [length_ints, HBB.out]; omega) hsx ?_; intro A9 c9 w9 hown9 hg9 hf9; simp only [length_ints, HBB.out] at hown9 ⊢)
          rw [ints_append] at hown9
          have HB9 := Lib.hid (hbel.out.grown hg9 hsx (fun k hk => (hown.out.lt k hk).1))
          have HO9 := Lib.hid hown9
          have HLL : Hid ((zs ++ ys).length = a + b) := Lib.hid (by rw [List.length_append, HA.out, HBB.out])
          clear hown9 hg9 hf9 m0 m1
          go_roundw
          case rel => exact ⟨2, A9, c9, zs ++ ys, .inr (.inr ⟨rfl, rfl⟩), rfl, by rw [HLL.out], by rw [HLL.out]; exact HO9, HB9⟩
          case measure => simp [intOf]
        · go_wp2
          go_ret
          exact ⟨A, c, rfl, hown.out, hbel.out⟩
end Go.Proofs.Ytfhlailhcfjjaaa
