/- Contracts of sector.New and sector.Disk's Copy. -/
import Derived.Test.YtcgmgogkfhlgpaaSecFl
import Derived.Laws.MakeOwn
import Derived.Lib.SliceRun
namespace Go.Proofs.Ytcgmgogkfhlgpaa
open Go.RowKit
set_option linter.unusedVariables false
set_option linter.unusedSimpArgs false

theorem zeros_made (m : Nat) : madeCells zSec.toArray (m * 64) = ((List.replicate m (List.replicate 64 (0 : UInt8))).flatMap bytesV).toArray := by
  have h1 : ∀ k, ((List.replicate k (List.replicate 64 (0 : UInt8))).flatMap bytesV) = List.replicate (k * 64) (Value.int .u8 0) := by
    intro k
    induction k with
    | zero => rfl
    | succ k ih =>
      rw [List.replicate_succ, List.flatMap_cons, ih, Nat.succ_mul, Nat.add_comm, ← List.replicate_append_replicate]
      congr 1
  rw [h1]
  apply Array.ext
  · simp [madeCells]
  · intro i h2 h3
    have hz : ∀ j, j < 64 → zSec.toArray[j]! = .int .u8 0 := by
      intro j hj
      have h : j < zSec.toArray.size := by rw [List.size_toArray, len_zSec]; exact hj
      rw [getElem!_pos zSec.toArray j h]
      exact List.eq_of_mem_replicate (List.getElem_mem (l := zSec) (by simpa using h))
    simp only [madeCells, Array.getElem_map, Array.getElem_range, List.getElem_toArray, List.getElem_replicate]
    exact hz _ (by rw [List.size_toArray, len_zSec]; exact Nat.mod_lt _ (by omega))
theorem run_make_sec (w : World) (m : Nat) (hm : m ≤ 4096) : (Instr.makeSlice 52 (.int .i64 (m : Int)) (.int .i64 (m : Int))).run Try.prog w = .ok (.slice (some ⟨w.heap.size, 0, none⟩) m m) (w.alloc (.cells ((List.replicate m (List.replicate 64 (0 : UInt8))).flatMap bytesV).toArray 58)) := by
  obtain ⟨i, hi, hz, hs, hb⟩ := info_parts elem_sec.info
  have := run_make w 52 58 i _ Try.underlying52 hi hz .i64 .i64 m m (by omega) (Int.le_refl _) (by rw [hb]; omega) (by omega)
  rw [this, hs, Int.toNat_natCast]
  have hc : (Value.agg (List.replicate 64 (Value.int .u8 0)).toArray).cells = zSec.toArray := rfl
  rw [hc, zeros_made]
theorem run_min_max (n : Int) : ∃ m : Nat, max 0 (min n 4096) = (m : Int) ∧ m ≤ 4096 := ⟨(max 0 (min n 4096)).toNat, by omega, by omega⟩
theorem run_min_int {P : Program} {w : World} (ts : Array TypeId) (t : TypeId) (x y : Int) : (Builtin.min_ ts t #[.int .i64 x, .int .i64 y]).run P w = .ok (.int .i64 (min x y)) w := by
  rw [run_min_int2]
  congr 2
  omega
theorem run_max_int {P : Program} {w : World} (ts : Array TypeId) (t : TypeId) (x y : Int) : (Builtin.max_ ts t #[.int .i64 x, .int .i64 y]).run P w = .ok (.int .i64 (max x y)) w := by
  rw [run_max_int2]
  congr 2
  omega
attribute [local go_sem high] run_min_int run_max_int
theorem rep_len (m : Nat) : ∀ b ∈ List.replicate m (List.replicate 64 (0 : UInt8)), (bytesV b).length = 64 := fun b hb => by
  rw [length_bytesV, (List.mem_replicate.1 hb).2]
  simp
theorem DAt.made {w w' : World} {g g2 q m : Nat} (hm : m ≤ 4096) (h1 : Blk w' g 58 ((List.replicate m (List.replicate 64 (0 : UInt8))).flatMap bytesV)) (h2 : Blk w' g2 58 ((List.replicate m (List.replicate 64 (0 : UInt8))).flatMap bytesV))
    (h3 : Blk w' q 55 [.slice (some ⟨g, 0, none⟩) m m, .slice (some ⟨g2, 0, none⟩) m m, .slice none 0 0, .int .i64 0, .int .i64 0, .bool false]) (b1 : w.heap.size ≤ g) (b2 : w.heap.size ≤ g2) (b3 : w.heap.size ≤ q) (n1 : g ≠ q) (n2 : g2 ≠ q) (n3 : g ≠ g2) :
    DAt w.heap.size w' q (.slice (some ⟨g, 0, none⟩) m m) (.slice (some ⟨g2, 0, none⟩) m m) (.slice none 0 0) (Dk.new m) := by
  have hl : ((List.replicate m (List.replicate 64 (0 : UInt8))).flatMap bytesV).length = m * 64 := by
    rw [flat_length bytesV 64 _ (rep_len m), List.length_replicate]
  have e1 := h1.own (size := 64) b1 (Nat.le_refl m) (by unfold maxLen; omega) hl
  have e2 := h2.own (size := 64) b2 (Nat.le_refl m) (by unfold maxLen; omega) hl
  rw [List.take_of_length_le (by omega)] at e1 e2
  have hr : (List.replicate m (List.replicate 64 (0 : UInt8))).length = m := by simp
  refine ⟨h3, by simpa [Dk.new] using e1, by simpa [Dk.new] using e2, ownsRow_none _ _ _ _, b3, ?_, ?_, ?_, ?_, ?_, ?_, Dk.new_ok hm⟩
  · intro e; injection e with e; exact n1 e
  · intro e; injection e with e; exact n2 e
  · intro e; cases e
  · intro k hk e; injection hk with hk; injection e with e; exact n3 (hk.trans e.symm)
  · intro k hk e; cases e
  · intro k hk e; cases e
/-- a new disk -/
def NewDisk (w : World) (s : Dk) (en : Ending) (w' : World) : Prop :=
  ∃ q, en = .returned (.pointer (some ⟨q, 0, none⟩)) ∧ DiskIs w.heap.size (fun i => w.heap.size ≤ i ∧ i < w'.heap.size) w' q s ∧ Below w.heap.size w w'
theorem DAt.newDisk {w w' : World} {q : Nat} {nv sv lv : Value} {s : Dk} (h : DAt w.heap.size w' q nv sv lv s) (hb : Below w.heap.size w w') : NewDisk w s (.returned (.pointer (some ⟨q, 0, none⟩))) w' :=
  ⟨q, rfl, ⟨nv, sv, lv, h, h.lt⟩, hb⟩
set_option maxHeartbeats 800000 in
set_option maxRecDepth 100000 in
theorem snew_any (w : World) (n : Int) (m : Nat) (hm : max 0 (min n 4096) = (m : Int)) : Calls Try.prog 10 #[.int .i64 n] w (NewDisk w (Dk.new m)) := by
  have h4 : m ≤ 4096 := by omega
  have HM := Lib.hid hm
  have HMK := Lib.hid (fun (w : World) => run_make_sec w m h4)
  obtain ⟨Z, hz⟩ : ∃ Z, ((List.replicate m (List.replicate 64 (0 : UInt8))).flatMap bytesV).toArray = Z := ⟨_, rfl⟩
  have HZ : Hid (Z.toList = (List.replicate m (List.replicate 64 (0 : UInt8))).flatMap bytesV) := Lib.hid (by rw [← hz])
  rw [hz] at HMK
  have q1 := HMK.out
  clear hz
  go_enter Try.func10, Try.ntmps10
  go_upto_region 2 with fail
  clear hm
  refine wp_region_held_drew (S := (fun _ => True)) (by kernel_rfl) (trivial) (fun hHeld => ?_)
  refine' wpAnyH_take (i := 0) (v := _) rfl (by kernel_rfl) (by kernel_rfl) (by kernel_rfl) (fun _ _ _ h => h) (Or.inl ⟨by rfl, ?taq1⟩) (by assumption) ?tbq1
  case taq1 =>
    intro wS hSw
    (try dsimp only at hSw)
    go_simp
    (try (with_reducible rfl))
  (try simp only [List.getElem_toArray, List.getElem_cons_zero, List.getElem_cons_succ, Act.put, List.setIfInBounds_toArray, List.set_cons_zero, List.set_cons_succ])
  refine' wpAnyH_take (i := 2) (v := _) rfl (by kernel_rfl) (by kernel_rfl) (by kernel_rfl) (fun _ _ _ h => h) (Or.inl ⟨by rfl, ?taq2⟩) (by assumption) ?tbq2
  case taq2 =>
    intro wS hSw
    (try dsimp only at hSw)
    go_simp
    (try (with_reducible rfl))
  (try simp only [List.getElem_toArray, List.getElem_cons_zero, List.getElem_cons_succ, Act.put, List.setIfInBounds_toArray, List.set_cons_zero, List.set_cons_succ])
  refine wpAnyH_ready (rs := [1, 3]) (by kernel_rfl) (by simp) ?_
  refine AllReadyH.cons rfl (fun K9 hK9 => ?_) (AllReadyH.cons rfl (fun K9 hK9 => ?_) AllReadyH.nil)
  · (try simp only [List.getElem_toArray, List.getElem_cons_zero, List.getElem_cons_succ])
    go_simp
    refine hK9.out _ _ (trivial) (fun hHeld9 => ?_)
    clear hK9 K9
    (try simp only [List.getElem_toArray, List.getElem_cons_zero, List.getElem_cons_succ, Act.put, List.setIfInBounds_toArray, List.set_cons_zero, List.set_cons_succ])
    refine wpAnyH_ready (rs := [3]) (by kernel_rfl) (by simp) ?_
    refine AllReadyH.cons rfl (fun K9 hK9 => ?_) AllReadyH.nil
    (try simp only [List.getElem_toArray, List.getElem_cons_zero, List.getElem_cons_succ])
    go_simp
    refine hK9.out _ _ (trivial) (fun hHeld9 => ?_)
    clear hK9 K9
    (try simp only [List.getElem_toArray, List.getElem_cons_zero, List.getElem_cons_succ, Act.put, List.setIfInBounds_toArray, List.set_cons_zero, List.set_cons_succ])
    refine' wpAnyH_take (i := 4) (v := _) rfl (by kernel_rfl) (by kernel_rfl) (by kernel_rfl) (fun _ _ _ h => h) (Or.inl ⟨by rfl, ?taq3⟩) (by assumption) ?tbq3
    case taq3 =>
      intro wS hSw
      (try dsimp only at hSw)
      go_simp
      (try (with_reducible rfl))
    (try simp only [List.getElem_toArray, List.getElem_cons_zero, List.getElem_cons_succ, Act.put, List.setIfInBounds_toArray, List.set_cons_zero, List.set_cons_succ])
    refine wpAnyH_ready (rs := [5]) (by kernel_rfl) (by simp) ?_
    refine AllReadyH.cons rfl (fun K9 hK9 => ?_) AllReadyH.nil
    (try simp only [List.getElem_toArray, List.getElem_cons_zero, List.getElem_cons_succ])
    go_simp
    refine hK9.out _ _ (trivial) (fun hHeld9 => ?_)
    clear hK9 K9
    (try simp only [List.getElem_toArray, List.getElem_cons_zero, List.getElem_cons_succ, Act.put, List.setIfInBounds_toArray, List.set_cons_zero, List.set_cons_succ])
    refine' wpAnyH_take (i := 6) (v := _) rfl (by kernel_rfl) (by kernel_rfl) (by kernel_rfl) (fun _ _ _ h => h) (Or.inl ⟨by rfl, ?taq4⟩) (by assumption) ?tbq4
    case taq4 =>
      intro wS hSw
      (try dsimp only at hSw)
      go_simp
      (try (with_reducible rfl))
    (try simp only [List.getElem_toArray, List.getElem_cons_zero, List.getElem_cons_succ, Act.put, List.setIfInBounds_toArray, List.set_cons_zero, List.set_cons_succ])
    refine wpAnyH_done (by kernel_rfl) ?_ _
    go_wp2
    go_ret
    have h1 := ((Blk.freshA w 58 Z).alloc (.cells Z 58)).alloc (.cells #[.slice (some ⟨w.heap.size, 0, none⟩) m m, .slice (some ⟨w.heap.size + 1, 0, none⟩) m m, .slice none 0 0, .int .i64 0, .int .i64 0, .bool false] 55)
    have h2 := (Blk.freshA (w.alloc (.cells Z 58)) 58 Z).alloc (.cells #[.slice (some ⟨w.heap.size, 0, none⟩) m m, .slice (some ⟨w.heap.size + 1, 0, none⟩) m m, .slice none 0 0, .int .i64 0, .int .i64 0, .bool false] 55)
    have h3 := Blk.freshA ((w.alloc (.cells Z 58)).alloc (.cells Z 58)) 55 #[.slice (some ⟨w.heap.size, 0, none⟩) m m, .slice (some ⟨w.heap.size + 1, 0, none⟩) m m, .slice none 0 0, .int .i64 0, .int .i64 0, .bool false]
    rw [HZ.out] at h1 h2
    simp only [World.size_alloc] at h2 h3
    have hb : Below w.heap.size w ((((w.alloc (.cells Z 58)).alloc (.cells Z 58)).alloc (.cells #[.slice (some ⟨w.heap.size, 0, none⟩) m m, .slice (some ⟨w.heap.size + 1, 0, none⟩) m m, .slice none 0 0, .int .i64 0, .int .i64 0, .bool false] 55)).drew) := ((((Below.refl w.heap.size w).alloc (Nat.le_refl _) _).alloc (by simp) _).alloc (by simp; omega) _).drew
    exact DAt.newDisk (DAt.made (w' := (((w.alloc (.cells Z 58)).alloc (.cells Z 58)).alloc (.cells #[.slice (some ⟨w.heap.size, 0, none⟩) m m, .slice (some ⟨w.heap.size + 1, 0, none⟩) m m, .slice none 0 0, .int .i64 0, .int .i64 0, .bool false] 55)).drew) h4 h1 h2 h3 (by omega) (by omega) (by omega) (by omega) (by omega) (by omega)) hb
  · (try simp only [List.getElem_toArray, List.getElem_cons_zero, List.getElem_cons_succ])
    go_simp
    refine hK9.out _ _ (trivial) (fun hHeld9 => ?_)
    clear hK9 K9
    (try simp only [List.getElem_toArray, List.getElem_cons_zero, List.getElem_cons_succ, Act.put, List.setIfInBounds_toArray, List.set_cons_zero, List.set_cons_succ])
    refine wpAnyH_ready (rs := [1]) (by kernel_rfl) (by simp) ?_
    refine AllReadyH.cons rfl (fun K9 hK9 => ?_) AllReadyH.nil
    (try simp only [List.getElem_toArray, List.getElem_cons_zero, List.getElem_cons_succ])
    go_simp
    refine hK9.out _ _ (trivial) (fun hHeld9 => ?_)
    clear hK9 K9
    (try simp only [List.getElem_toArray, List.getElem_cons_zero, List.getElem_cons_succ, Act.put, List.setIfInBounds_toArray, List.set_cons_zero, List.set_cons_succ])
    refine' wpAnyH_take (i := 4) (v := _) rfl (by kernel_rfl) (by kernel_rfl) (by kernel_rfl) (fun _ _ _ h => h) (Or.inl ⟨by rfl, ?taq5⟩) (by assumption) ?tbq5
    case taq5 =>
      intro wS hSw
      (try dsimp only at hSw)
      go_simp
      (try (with_reducible rfl))
    (try simp only [List.getElem_toArray, List.getElem_cons_zero, List.getElem_cons_succ, Act.put, List.setIfInBounds_toArray, List.set_cons_zero, List.set_cons_succ])
    refine wpAnyH_ready (rs := [5]) (by kernel_rfl) (by simp) ?_
    refine AllReadyH.cons rfl (fun K9 hK9 => ?_) AllReadyH.nil
    (try simp only [List.getElem_toArray, List.getElem_cons_zero, List.getElem_cons_succ])
    go_simp
    refine hK9.out _ _ (trivial) (fun hHeld9 => ?_)
    clear hK9 K9
    (try simp only [List.getElem_toArray, List.getElem_cons_zero, List.getElem_cons_succ, Act.put, List.setIfInBounds_toArray, List.set_cons_zero, List.set_cons_succ])
    refine' wpAnyH_take (i := 6) (v := _) rfl (by kernel_rfl) (by kernel_rfl) (by kernel_rfl) (fun _ _ _ h => h) (Or.inl ⟨by rfl, ?taq6⟩) (by assumption) ?tbq6
    case taq6 =>
      intro wS hSw
      (try dsimp only at hSw)
      go_simp
      (try (with_reducible rfl))
    (try simp only [List.getElem_toArray, List.getElem_cons_zero, List.getElem_cons_succ, Act.put, List.setIfInBounds_toArray, List.set_cons_zero, List.set_cons_succ])
    refine wpAnyH_done (by kernel_rfl) ?_ _
    go_wp2
    go_ret
    have h1 := ((Blk.freshA w 58 Z).alloc (.cells Z 58)).alloc (.cells #[.slice (some ⟨w.heap.size + 1, 0, none⟩) m m, .slice (some ⟨w.heap.size, 0, none⟩) m m, .slice none 0 0, .int .i64 0, .int .i64 0, .bool false] 55)
    have h2 := (Blk.freshA (w.alloc (.cells Z 58)) 58 Z).alloc (.cells #[.slice (some ⟨w.heap.size + 1, 0, none⟩) m m, .slice (some ⟨w.heap.size, 0, none⟩) m m, .slice none 0 0, .int .i64 0, .int .i64 0, .bool false] 55)
    have h3 := Blk.freshA ((w.alloc (.cells Z 58)).alloc (.cells Z 58)) 55 #[.slice (some ⟨w.heap.size + 1, 0, none⟩) m m, .slice (some ⟨w.heap.size, 0, none⟩) m m, .slice none 0 0, .int .i64 0, .int .i64 0, .bool false]
    rw [HZ.out] at h1 h2
    simp only [World.size_alloc] at h2 h3
    have hb : Below w.heap.size w ((((w.alloc (.cells Z 58)).alloc (.cells Z 58)).alloc (.cells #[.slice (some ⟨w.heap.size + 1, 0, none⟩) m m, .slice (some ⟨w.heap.size, 0, none⟩) m m, .slice none 0 0, .int .i64 0, .int .i64 0, .bool false] 55)).drew) := ((((Below.refl w.heap.size w).alloc (Nat.le_refl _) _).alloc (by simp) _).alloc (by simp; omega) _).drew
    exact DAt.newDisk (DAt.made (w' := (((w.alloc (.cells Z 58)).alloc (.cells Z 58)).alloc (.cells #[.slice (some ⟨w.heap.size + 1, 0, none⟩) m m, .slice (some ⟨w.heap.size, 0, none⟩) m m, .slice none 0 0, .int .i64 0, .int .i64 0, .bool false] 55)).drew) h4 h2 h1 h3 (by omega) (by omega) (by omega) (by omega) (by omega) (by omega)) hb
/-- a new row -/
def NewRow (w : World) (e : TypeId) (sz n : Nat) (xs : List Value) (en : Ending) (w' : World) : Prop :=
  ∃ A c, en = .returned (.slice A n c) ∧ w'.ownsRow w.heap.size e sz (.slice A n c) n xs ∧ Below w.heap.size w w'
theorem clone_sec (w : World) (B n : Nat) (v : Value) (xs : List Value) (h : ReadsN 64 w B v xs) (hn : xs.length = n * 64) (h1 : ∀ u ∈ xs, u.oneCell' = true) (hB : B ≤ w.heap.size) (hl : n ≤ 1000000000) :
    Calls Try.prog 29 #[v] w (NewRow w 58 64 n xs) := by
  obtain ⟨A, n', c, rfl, hn', hc, hm, hat⟩ := h
  obtain rfl : n' = n := by omega
  have qT : ∀ (w : World) (a : Option Addr) (n c n' c' : Nat), (binOp .eql 52 (.slice a n c) (.slice none n' c')).run Try.prog w = .ok (.bool a.isNone) w := fun w a n c n' c' => Lib.run_eql_slice_nil w _ _ a n c n' c' Try.underlying52
  cases A with
  | none =>
    have h0 : n' = 0 := by
      rcases Nat.eq_zero_or_pos n' with h0 | h0
      · exact h0
      · obtain ⟨g, o, e, _⟩ := hat.out h0
        cases e
    subst h0
    have : xs = [] := List.eq_nil_of_length_eq_zero (by omega)
    subst this
    go_enter Try.func29, Try.ntmps29
    go_wp2
    go_ret
    exact ⟨none, 0, rfl, ownsRow_none _ _ _ _, Below.refl _ _⟩
  | some a =>
    have hr : ReadsN 64 w B (.slice (some a) n' c) xs := ⟨_, n', c, rfl, hn', hc, hm, hat⟩
    have hown : (w.alloc (.cells #[] 58)).ownsRow w.heap.size 58 64 (.slice (some ⟨w.heap.size, 0, none⟩) 0 0) 0 [] :=
      ⟨by simp, .inr ⟨w.heap.size, 0, #[], rfl, Nat.le_refl _, heap_alloc_new w _, Nat.le_refl _, by unfold maxLen; omega, by simp, by simp⟩⟩
    have HX := Lib.hid hn'
    clear hn hn'
    go_enter Try.func29, Try.ntmps29
    go_wp2_with (at_builtin; refine wpList_extendN elem_sec _ rfl (.tmp 5) (.tmp 6) rfl w.heap.size 0 _ [] rfl hown B n' _ xs rfl (hr.alloc hB _) HX.out h1 (by unfold maxLen; omega) (by omega) (by simp) ?_; intro A' c' w1 hown1 hgrow hfr)
    go_ret
    rw [Nat.zero_add] at hown1
    rw [List.nil_append] at hown1
    refine ⟨A', c', ?_, hown1, ((Below.refl _ _).alloc (Nat.le_refl _) _).grown hgrow (by simp) (fun k hk => (hown.lt k hk).1)⟩
    rfl
theorem clone_wr (w : World) (B n : Nat) (v : Value) (xs : List Value) (h : ReadsN 65 w B v xs) (hn : xs.length = n * 65) (h1 : ∀ u ∈ xs, u.oneCell' = true) (hB : B ≤ w.heap.size) (hl : n ≤ 1000000000) :
    Calls Try.prog 30 #[v] w (NewRow w 60 65 n xs) := by
  obtain ⟨A, n', c, rfl, hn', hc, hm, hat⟩ := h
  obtain rfl : n' = n := by omega
  have qT : ∀ (w : World) (a : Option Addr) (n c n' c' : Nat), (binOp .eql 53 (.slice a n c) (.slice none n' c')).run Try.prog w = .ok (.bool a.isNone) w := fun w a n c n' c' => Lib.run_eql_slice_nil w _ _ a n c n' c' Try.underlying53
  cases A with
  | none =>
    have h0 : n' = 0 := by
      rcases Nat.eq_zero_or_pos n' with h0 | h0
      · exact h0
      · obtain ⟨g, o, e, _⟩ := hat.out h0
        cases e
    subst h0
    have : xs = [] := List.eq_nil_of_length_eq_zero (by omega)
    subst this
    go_enter Try.func30, Try.ntmps30
    go_wp2
    go_ret
    exact ⟨none, 0, rfl, ownsRow_none _ _ _ _, Below.refl _ _⟩
  | some a =>
    have hr : ReadsN 65 w B (.slice (some a) n' c) xs := ⟨_, n', c, rfl, hn', hc, hm, hat⟩
    have hown : (w.alloc (.cells #[] 60)).ownsRow w.heap.size 60 65 (.slice (some ⟨w.heap.size, 0, none⟩) 0 0) 0 [] :=
      ⟨by simp, .inr ⟨w.heap.size, 0, #[], rfl, Nat.le_refl _, heap_alloc_new w _, Nat.le_refl _, by unfold maxLen; omega, by simp, by simp⟩⟩
    have HX := Lib.hid hn'
    clear hn hn'
    go_enter Try.func30, Try.ntmps30
    go_wp2_with (at_builtin; refine wpList_extendN elem_wr _ rfl (.tmp 5) (.tmp 6) rfl w.heap.size 0 _ [] rfl hown B n' _ xs rfl (hr.alloc hB _) HX.out h1 (by unfold maxLen; omega) (by omega) (by simp) ?_; intro A' c' w1 hown1 hgrow hfr)
    go_ret
    rw [Nat.zero_add] at hown1
    rw [List.nil_append] at hown1
    refine ⟨A', c', ?_, hown1, ((Below.refl _ _).alloc (Nat.le_refl _) _).grown hgrow (by simp) (fun k hk => (hown.lt k hk).1)⟩
    rfl
theorem DAt.build {B b1 b2 b3 q : Nat} {W : World} {nv sv lv : Value} {s : Dk} (hb : Blk W q 55 [nv, sv, lv, .int .i64 s.ops, .int .i64 s.fuse, .bool s.down])
    (hn : W.ownsRow b1 58 64 nv s.now.length (s.now.flatMap bytesV)) (n1 : ∀ k, nv.ownBlock = some k → k < b2) (hs : W.ownsRow b2 58 64 sv s.sure.length (s.sure.flatMap bytesV)) (n2 : ∀ k, sv.ownBlock = some k → k < b3)
    (hl : W.ownsRow b3 60 65 lv s.log.length (s.log.flatMap wrV)) (hB : B ≤ q) (hq : q < b1) (h12 : b1 ≤ b2) (h23 : b2 ≤ b3) (hok : s.Ok) : DAt B W q nv sv lv s := by
  refine ⟨hb, own_lower hn (by omega), own_lower hs (by omega), own_lower hl (by omega), hB, fun e => ?_, fun e => ?_, fun e => ?_, fun k h1 h2 => ?_, fun k h1 h2 => ?_, fun k h1 h2 => ?_, hok⟩
  · have := (hn.lt _ e).1; omega
  · have := (hs.lt _ e).1; omega
  · have := (hl.lt _ e).1; omega
  · have := n1 k h1; have := (hs.lt _ h2).1; omega
  · have := n1 k h1; have := (hl.lt _ h2).1; omega
  · have := n2 k h1; have := (hl.lt _ h2).1; omega
section
variable {B p : Nat} {O S : Nat → Prop} {w w' : World} {s : Dk}
set_option maxHeartbeats 1600000 in
set_option maxRecDepth 100000 in
theorem scopy_any (h : DiskIs B O w p s) (ho : s.ops ≤ 1000000000) : Calls Try.prog 21 #[.pointer (some ⟨p, 0, none⟩)] w (NewDisk w s) := by
  obtain ⟨nv, sv, lv, hd, hO⟩ := h
  obtain ⟨An, cn, rfl⟩ := own_form hd.now
  obtain ⟨As, cs, rfl⟩ := own_form hd.sure
  obtain ⟨Al, cl, rfl⟩ := own_form hd.log
  have hlg : s.log.length ≤ 1000000000 := by have := hd.ok.logs; omega
  have HC1 : Hid (∀ W : World, Below w.heap.size w W → Calls Try.prog 29 #[.slice An s.now.length cn] W (NewRow W 58 64 s.now.length (s.now.flatMap bytesV))) :=
    Lib.hid (fun W hW => clone_sec W w.heap.size _ _ _ ((ReadsN.of_own (by omega) hd.now).below hW) hd.now.1 (rows_one _) hW.size (by have := hd.ok.most; omega))
  have HC2 : Hid (∀ W : World, Below w.heap.size w W → Calls Try.prog 29 #[.slice As s.sure.length cs] W (NewRow W 58 64 s.sure.length (s.sure.flatMap bytesV))) :=
    Lib.hid (fun W hW => clone_sec W w.heap.size _ _ _ ((ReadsN.of_own (by omega) hd.sure).below hW) hd.sure.1 (rows_one _) hW.size (by have := hd.ok.most; rw [hd.ok.len]; omega))
  have HC3 : Hid (∀ W : World, Below w.heap.size w W → Calls Try.prog 30 #[.slice Al s.log.length cl] W (NewRow W 60 65 s.log.length (s.log.flatMap wrV))) :=
    Lib.hid (fun W hW => clone_wr W w.heap.size _ _ _ ((ReadsN.of_own (by omega) hd.log).below hW) hd.log.1 (wrV_one _) hW.size hlg)
  have k0 := hd.blk.cell 0
  have k1 := hd.blk.cell 1
  have k2 := hd.blk.cell 2
  have k3 := hd.blk.cell 3
  have k4 := hd.blk.cell 4
  have k5 := hd.blk.cell 5
  simp only [List.getElem?_cons_zero, List.getElem?_cons_succ] at k0 k1 k2 k3 k4 k5
  have hpl := hd.blk.lt
  have HK := Lib.hid hd.ok
  have HKD := Lib.hid hd.blk
  obtain ⟨now, sure, log, ops, fuse, down⟩ := s
  simp only at HC1 HC2 HC3 k0 k1 k2 k3 k4 k5
  clear hd hO hlg ho
  go_enter Try.func21, Try.ntmps21
  go_upto_region 4 with fail
  have hb1 := (Below.refl w.heap.size w).alloc (Nat.le_refl _) (.cells #[.slice An now.length cn, .slice As sure.length cs, .slice Al log.length cl, .int .i64 ops, .int .i64 fuse, .bool down] 55)
  have HB1 := Lib.hid hb1
  have HQ1 := Lib.hid (Blk.fresh w 55 [.slice An now.length cn, .slice As sure.length cs, .slice Al log.length cl, .int .i64 ops, .int .i64 fuse, .bool down])
  have HP1 := Lib.hid (HKD.out.alloc (.cells #[.slice An now.length cn, .slice As sure.length cs, .slice Al log.length cl, .int .i64 ops, .int .i64 fuse, .bool down] 55))
  have hs1 : w.heap.size < (w.alloc (.cells #[.slice An now.length cn, .slice As sure.length cs, .slice Al log.length cl, .int .i64 ops, .int .i64 fuse, .bool down] 55)).heap.size := by simp
  clear hb1 k0 k1 k2 k3 k4 k5
  generalize (w.alloc (.cells #[.slice An now.length cn, .slice As sure.length cs, .slice Al log.length cl, .int .i64 ops, .int .i64 fuse, .bool down] 55)) = w1 at HB1 HQ1 HP1 hs1 ⊢
  have k0 : w1.cell? ⟨p, 0, none⟩ = some (.slice An now.length cn) := HP1.out.cell 0
  have k1 : w1.cell? ⟨p, 1, none⟩ = some (.slice As sure.length cs) := HP1.out.cell 1
  have k2 : w1.cell? ⟨p, 2, none⟩ = some (.slice Al log.length cl) := HP1.out.cell 2
  refine wp_region_held_drew (S := (fun w' => w'.cell? ⟨p, 0, none⟩ = some (.slice An now.length cn) ∧ w'.cell? ⟨p, 1, none⟩ = some (.slice As sure.length cs) ∧ w'.cell? ⟨p, 2, none⟩ = some (.slice Al log.length cl))) (by kernel_rfl) (⟨k0, k1, k2⟩) (fun hHeld => ?_)
  refine' wpAnyH_take (i := 0) (v := _) rfl (by kernel_rfl) (by kernel_rfl) (by kernel_rfl) (fun _ _ _ h => h) (Or.inl ⟨by rfl, ?taq7⟩) (by assumption) ?tbq7
  case taq7 =>
    intro wS hSw
    (try dsimp only at hSw)
    go_simp
    (try (with_reducible rfl))
  (try simp only [List.getElem_toArray, List.getElem_cons_zero, List.getElem_cons_succ, Act.put, List.setIfInBounds_toArray, List.set_cons_zero, List.set_cons_succ])
  refine' wpAnyH_take (i := 1) (v := _) rfl (by kernel_rfl) (by kernel_rfl) (by kernel_rfl) (fun _ _ _ h => h) (Or.inl ⟨by rfl, ?taq8⟩) (by assumption) ?tbq8
  case taq8 =>
    intro wS hSw
    (try dsimp only at hSw)
    go_simp
    (try (with_reducible rfl))
  (try simp only [List.getElem_toArray, List.getElem_cons_zero, List.getElem_cons_succ, Act.put, List.setIfInBounds_toArray, List.set_cons_zero, List.set_cons_succ])
  refine' wpAnyH_take (i := 2) (v := _) rfl (by kernel_rfl) (by kernel_rfl) (by kernel_rfl) (fun _ _ _ h => h) (Or.inl ⟨by rfl, ?taq9⟩) (by assumption) ?tbq9
  case taq9 =>
    intro wS hSw
    (try dsimp only at hSw)
    go_simp
    (try (with_reducible rfl))
  (try simp only [List.getElem_toArray, List.getElem_cons_zero, List.getElem_cons_succ, Act.put, List.setIfInBounds_toArray, List.set_cons_zero, List.set_cons_succ])
  refine' wpAnyH_take (i := 3) (v := _) rfl (by kernel_rfl) (by kernel_rfl) (by kernel_rfl) (fun _ _ _ h => h) (Or.inl ⟨by rfl, ?taq10⟩) (by assumption) ?tbq10
  case taq10 =>
    intro wS hSw
    (try dsimp only at hSw)
    go_simp
    (try (with_reducible rfl))
  (try simp only [List.getElem_toArray, List.getElem_cons_zero, List.getElem_cons_succ, Act.put, List.setIfInBounds_toArray, List.set_cons_zero, List.set_cons_succ])
  refine' wpAnyH_take (i := 5) (v := _) rfl (by kernel_rfl) (by kernel_rfl) (by kernel_rfl) (fun _ _ _ h => h) (Or.inl ⟨by rfl, ?taq11⟩) (by assumption) ?tbq11
  case taq11 =>
    intro wS hSw
    (try dsimp only at hSw)
    go_simp
    (try (with_reducible rfl))
  (try simp only [List.getElem_toArray, List.getElem_cons_zero, List.getElem_cons_succ, Act.put, List.setIfInBounds_toArray, List.set_cons_zero, List.set_cons_succ])
  refine' wpAnyH_take (i := 6) (v := _) rfl (by kernel_rfl) (by kernel_rfl) (by kernel_rfl) (fun _ _ _ h => h) (Or.inl ⟨by rfl, ?taq12⟩) (by assumption) ?tbq12
  case taq12 =>
    intro wS hSw
    (try dsimp only at hSw)
    go_simp
    (try (with_reducible rfl))
  (try simp only [List.getElem_toArray, List.getElem_cons_zero, List.getElem_cons_succ, Act.put, List.setIfInBounds_toArray, List.set_cons_zero, List.set_cons_succ])
  refine' wpAnyH_take (i := 7) (v := _) rfl (by kernel_rfl) (by kernel_rfl) (by kernel_rfl) (fun _ _ _ h => h) (Or.inl ⟨by rfl, ?taq13⟩) (by assumption) ?tbq13
  case taq13 =>
    intro wS hSw
    (try dsimp only at hSw)
    go_simp
    (try (with_reducible rfl))
  (try simp only [List.getElem_toArray, List.getElem_cons_zero, List.getElem_cons_succ, Act.put, List.setIfInBounds_toArray, List.set_cons_zero, List.set_cons_succ])
  refine' wpAnyH_take (i := 8) (v := _) rfl (by kernel_rfl) (by kernel_rfl) (by kernel_rfl) (fun _ _ _ h => h) (Or.inl ⟨by rfl, ?taq14⟩) (by assumption) ?tbq14
  case taq14 =>
    intro wS hSw
    (try dsimp only at hSw)
    go_simp
    (try (with_reducible rfl))
  (try simp only [List.getElem_toArray, List.getElem_cons_zero, List.getElem_cons_succ, Act.put, List.setIfInBounds_toArray, List.set_cons_zero, List.set_cons_succ])
  refine' wpAnyH_take (i := 10) (v := _) rfl (by kernel_rfl) (by kernel_rfl) (by kernel_rfl) (fun _ _ _ h => h) (Or.inl ⟨by rfl, ?taq15⟩) (by assumption) ?tbq15
  case taq15 =>
    intro wS hSw
    (try dsimp only at hSw)
    go_simp
    (try (with_reducible rfl))
  (try simp only [List.getElem_toArray, List.getElem_cons_zero, List.getElem_cons_succ, Act.put, List.setIfInBounds_toArray, List.set_cons_zero, List.set_cons_succ])
  refine' wpAnyH_take (i := 11) (v := _) rfl (by kernel_rfl) (by kernel_rfl) (by kernel_rfl) (fun _ _ _ h => h) (Or.inl ⟨by rfl, ?taq16⟩) (by assumption) ?tbq16
  case taq16 =>
    intro wS hSw
    (try dsimp only at hSw)
    go_simp
    (try (with_reducible rfl))
  (try simp only [List.getElem_toArray, List.getElem_cons_zero, List.getElem_cons_succ, Act.put, List.setIfInBounds_toArray, List.set_cons_zero, List.set_cons_succ])
  refine' wpAnyH_take (i := 12) (v := _) rfl (by kernel_rfl) (by kernel_rfl) (by kernel_rfl) (fun _ _ _ h => h) (Or.inl ⟨by rfl, ?taq17⟩) (by assumption) ?tbq17
  case taq17 =>
    intro wS hSw
    (try dsimp only at hSw)
    go_simp
    (try (with_reducible rfl))
  (try simp only [List.getElem_toArray, List.getElem_cons_zero, List.getElem_cons_succ, Act.put, List.setIfInBounds_toArray, List.set_cons_zero, List.set_cons_succ])
  refine' wpAnyH_take (i := 13) (v := _) rfl (by kernel_rfl) (by kernel_rfl) (by kernel_rfl) (fun _ _ _ h => h) (Or.inl ⟨by rfl, ?taq18⟩) (by assumption) ?tbq18
  case taq18 =>
    intro wS hSw
    (try dsimp only at hSw)
    go_simp
    (try (with_reducible rfl))
  (try simp only [List.getElem_toArray, List.getElem_cons_zero, List.getElem_cons_succ, Act.put, List.setIfInBounds_toArray, List.set_cons_zero, List.set_cons_succ])
  have HBD : Hid (Below w.heap.size w w1.drew) := Lib.hid HB1.out.drew
  refine wpAnyH_ready (rs := [4]) (by kernel_rfl) (by simp) ?_
  refine AllReadyH.cons rfl (fun K9 hK9 => ?_) AllReadyH.nil
  (try simp only [List.getElem_toArray, List.getElem_cons_zero, List.getElem_cons_succ])
  go_simp
  refine (HC1.out w1.drew HBD.out).mono ?_
  rintro en w3 ⟨A1, c1, rfl, hown, hb⟩
  have HBn1 := Lib.hid (HBD.out.trans (hb.mono HBD.out.size))
  have HR1 := Lib.hid hown
  have HL1 := Lib.hid hb
  have hsn1 := hb.size
  have l0 := (HBn1.out.cell (p := ⟨p, 0, none⟩) hpl)
  have l1 := (HBn1.out.cell (p := ⟨p, 1, none⟩) hpl)
  have l2 := (HBn1.out.cell (p := ⟨p, 2, none⟩) hpl)
  have l0' := l0.trans (HKD.out.cell 0)
  have l1' := l1.trans (HKD.out.cell 1)
  have l2' := l2.trans (HKD.out.cell 2)
  clear hown hb l0 l1 l2
  refine hK9.out _ _ (⟨l0', l1', l2'⟩) (fun hHeld9 => ?_)
  clear hK9 K9
  (try simp only [List.getElem_toArray, List.getElem_cons_zero, List.getElem_cons_succ, Act.put, List.setIfInBounds_toArray, List.set_cons_zero, List.set_cons_succ])
  clear l0' l1' l2'
  refine wpAnyH_ready (rs := [9]) (by kernel_rfl) (by simp) ?_
  refine AllReadyH.cons rfl (fun K9 hK9 => ?_) AllReadyH.nil
  (try simp only [List.getElem_toArray, List.getElem_cons_zero, List.getElem_cons_succ])
  go_simp
  refine (HC2.out w3 HBn1.out).mono ?_
  rintro en w4 ⟨A2, c2, rfl, hown, hb⟩
  have HBn2 := Lib.hid (HBn1.out.trans (hb.mono HBn1.out.size))
  have HR2 := Lib.hid hown
  have HL2 := Lib.hid hb
  have hsn2 := hb.size
  have l0 := (HBn2.out.cell (p := ⟨p, 0, none⟩) hpl)
  have l1 := (HBn2.out.cell (p := ⟨p, 1, none⟩) hpl)
  have l2 := (HBn2.out.cell (p := ⟨p, 2, none⟩) hpl)
  have l0' := l0.trans (HKD.out.cell 0)
  have l1' := l1.trans (HKD.out.cell 1)
  have l2' := l2.trans (HKD.out.cell 2)
  clear hown hb l0 l1 l2
  refine hK9.out _ _ (⟨l0', l1', l2'⟩) (fun hHeld9 => ?_)
  clear hK9 K9
  (try simp only [List.getElem_toArray, List.getElem_cons_zero, List.getElem_cons_succ, Act.put, List.setIfInBounds_toArray, List.set_cons_zero, List.set_cons_succ])
  clear l0' l1' l2'
  refine wpAnyH_ready (rs := [14]) (by kernel_rfl) (by simp) ?_
  refine AllReadyH.cons rfl (fun K9 hK9 => ?_) AllReadyH.nil
  (try simp only [List.getElem_toArray, List.getElem_cons_zero, List.getElem_cons_succ])
  go_simp
  refine (HC3.out w4 HBn2.out).mono ?_
  rintro en w5 ⟨A3, c3, rfl, hown, hb⟩
  have HBn3 := Lib.hid (HBn2.out.trans (hb.mono HBn2.out.size))
  have HR3 := Lib.hid hown
  have HL3 := Lib.hid hb
  have hsn3 := hb.size
  have l0 := (HBn3.out.cell (p := ⟨p, 0, none⟩) hpl)
  have l1 := (HBn3.out.cell (p := ⟨p, 1, none⟩) hpl)
  have l2 := (HBn3.out.cell (p := ⟨p, 2, none⟩) hpl)
  have l0' := l0.trans (HKD.out.cell 0)
  have l1' := l1.trans (HKD.out.cell 1)
  have l2' := l2.trans (HKD.out.cell 2)
  clear hown hb l0 l1 l2
  refine hK9.out _ _ (⟨l0', l1', l2'⟩) (fun hHeld9 => ?_)
  clear hK9 K9
  (try simp only [List.getElem_toArray, List.getElem_cons_zero, List.getElem_cons_succ, Act.put, List.setIfInBounds_toArray, List.set_cons_zero, List.set_cons_succ])
  clear l0' l1' l2'
  have hs13 : w1.heap.size ≤ w3.heap.size := hsn1
  have hq5 : Blk w5 w.heap.size 55 [.slice An now.length cn, .slice As sure.length cs, .slice Al log.length cl, .int .i64 ops, .int .i64 fuse, .bool down] := ((HQ1.out.drew.below HL1.out (by exact hs1)).below HL2.out (by omega)).below HL3.out (by omega)
  have y0 : w5.cell? ⟨w.heap.size, 0, none⟩ = some (.slice An now.length cn) := hq5.cell 0
  have y1 : w5.cell? ⟨w.heap.size, 1, none⟩ = some (.slice As sure.length cs) := hq5.cell 1
  have y2 : w5.cell? ⟨w.heap.size, 2, none⟩ = some (.slice Al log.length cl) := hq5.cell 2
  have z0 := hq5.free 0
  have z1 := hq5.free 1
  have z2 := hq5.free 2
  have HQ5 := Lib.hid hq5
  clear hq5
  have hpk : ∀ (W : World), Off (fun i => i = w.heap.size) w5 W → (W.cell? ⟨p, 0, none⟩ = some (.slice An now.length cn) ∧ W.cell? ⟨p, 1, none⟩ = some (.slice As sure.length cs) ∧ W.cell? ⟨p, 2, none⟩ = some (.slice Al log.length cl)) := fun W hW =>
    ⟨((hW.cell (p := ⟨p, 0, none⟩) (by show p < _; omega) (by show ¬ p = _; omega)).trans (HBn3.out.cell (p := ⟨p, 0, none⟩) hpl)).trans (HKD.out.cell 0), ((hW.cell (p := ⟨p, 1, none⟩) (by show p < _; omega) (by show ¬ p = _; omega)).trans (HBn3.out.cell (p := ⟨p, 1, none⟩) hpl)).trans (HKD.out.cell 1), ((hW.cell (p := ⟨p, 2, none⟩) (by show p < _; omega) (by show ¬ p = _; omega)).trans (HBn3.out.cell (p := ⟨p, 2, none⟩) hpl)).trans (HKD.out.cell 2)⟩
  have HPK := Lib.hid hpk
  clear hpk
  refine' wpAnyH_take (i := 15) (v := _) rfl (by kernel_rfl) (by kernel_rfl) (by kernel_rfl) (fun _ _ _ h => h) (Or.inl ⟨by rfl, ?taq19⟩) (by assumption) ?tbq19
  case taq19 =>
    intro wS hSw
    (try dsimp only at hSw)
    go_simp
    (try (with_reducible rfl))
  (try simp only [List.getElem_toArray, List.getElem_cons_zero, List.getElem_cons_succ, Act.put, List.setIfInBounds_toArray, List.set_cons_zero, List.set_cons_succ])
  refine wpAnyH_ready (rs := [16]) (by kernel_rfl) (by simp) ?_
  refine AllReadyH.cons rfl (fun K9 hK9 => ?_) AllReadyH.nil
  (try simp only [List.getElem_toArray, List.getElem_cons_zero, List.getElem_cons_succ])
  go_simp
  refine hK9.out _ _ (HPK.out _ ((Off.refl (fun i => i = w.heap.size) w5).setCell (p := ⟨w.heap.size, 0, none⟩) (.inl rfl) _)) (fun hHeld9 => ?_)
  clear hK9 K9
  (try simp only [List.getElem_toArray, List.getElem_cons_zero, List.getElem_cons_succ, Act.put, List.setIfInBounds_toArray, List.set_cons_zero, List.set_cons_succ])
  refine' wpAnyH_take (i := 17) (v := _) rfl (by kernel_rfl) (by kernel_rfl) (by kernel_rfl) (fun _ _ _ h => h) (Or.inl ⟨by rfl, ?taq20⟩) (by assumption) ?tbq20
  case taq20 =>
    intro wS hSw
    (try dsimp only at hSw)
    go_simp
    (try (with_reducible rfl))
  (try simp only [List.getElem_toArray, List.getElem_cons_zero, List.getElem_cons_succ, Act.put, List.setIfInBounds_toArray, List.set_cons_zero, List.set_cons_succ])
  refine wpAnyH_ready (rs := [18]) (by kernel_rfl) (by simp) ?_
  refine AllReadyH.cons rfl (fun K9 hK9 => ?_) AllReadyH.nil
  (try simp only [List.getElem_toArray, List.getElem_cons_zero, List.getElem_cons_succ])
  go_simp
  refine hK9.out _ _ (HPK.out _ (((Off.refl (fun i => i = w.heap.size) w5).setCell (p := ⟨w.heap.size, 0, none⟩) (.inl rfl) _).setCell (p := ⟨w.heap.size, 1, none⟩) (.inl rfl) _)) (fun hHeld9 => ?_)
  clear hK9 K9
  (try simp only [List.getElem_toArray, List.getElem_cons_zero, List.getElem_cons_succ, Act.put, List.setIfInBounds_toArray, List.set_cons_zero, List.set_cons_succ])
  refine' wpAnyH_take (i := 19) (v := _) rfl (by kernel_rfl) (by kernel_rfl) (by kernel_rfl) (fun _ _ _ h => h) (Or.inl ⟨by rfl, ?taq21⟩) (by assumption) ?tbq21
  case taq21 =>
    intro wS hSw
    (try dsimp only at hSw)
    go_simp
    (try (with_reducible rfl))
  (try simp only [List.getElem_toArray, List.getElem_cons_zero, List.getElem_cons_succ, Act.put, List.setIfInBounds_toArray, List.set_cons_zero, List.set_cons_succ])
  refine wpAnyH_ready (rs := [20]) (by kernel_rfl) (by simp) ?_
  refine AllReadyH.cons rfl (fun K9 hK9 => ?_) AllReadyH.nil
  (try simp only [List.getElem_toArray, List.getElem_cons_zero, List.getElem_cons_succ])
  go_simp
  refine hK9.out _ _ (HPK.out _ ((((Off.refl (fun i => i = w.heap.size) w5).setCell (p := ⟨w.heap.size, 0, none⟩) (.inl rfl) _).setCell (p := ⟨w.heap.size, 1, none⟩) (.inl rfl) _).setCell (p := ⟨w.heap.size, 2, none⟩) (.inl rfl) _)) (fun hHeld9 => ?_)
  clear hK9 K9
  (try simp only [List.getElem_toArray, List.getElem_cons_zero, List.getElem_cons_succ, Act.put, List.setIfInBounds_toArray, List.set_cons_zero, List.set_cons_succ])
  refine wpAnyH_done (by kernel_rfl) ?_ _
  go_wp2
  go_ret
  have hof : Off (fun i => i = w.heap.size) w5 (((w5.setCell ⟨w.heap.size, 0, none⟩ (.slice A1 now.length c1)).setCell ⟨w.heap.size, 1, none⟩ (.slice A2 sure.length c2)).setCell ⟨w.heap.size, 2, none⟩ (.slice A3 log.length c3)) := ((((Off.refl (fun i => i = w.heap.size) w5).setCell (p := ⟨w.heap.size, 0, none⟩) (.inl rfl) _).setCell (p := ⟨w.heap.size, 1, none⟩) (.inl rfl) _).setCell (p := ⟨w.heap.size, 2, none⟩) (.inl rfl) _)
  have hs5 : w4.heap.size ≤ w5.heap.size := hsn3
  have hw1 : w1.drew.heap.size = w1.heap.size := rfl
  have r1 := HR1.out
  have r2 := HR2.out
  have r3 := HR3.out
  have e1 := own_off (own_off (own_off r1 (Off.of_below HL2.out (S := fun i => w3.heap.size ≤ i) (fun i hi => .inl hi)) (fun k hk => by have := (r1.lt k hk).2; omega)) (Off.of_below HL3.out (S := fun i => w4.heap.size ≤ i) (fun i hi => .inl hi)) (fun k hk => by have := (r1.lt k hk).2; omega)) hof (fun k hk => by have := (r1.lt k hk).1; omega)
  have e2 := own_off (own_off r2 (Off.of_below HL3.out (S := fun i => w4.heap.size ≤ i) (fun i hi => .inl hi)) (fun k hk => by have := (r2.lt k hk).2; omega)) hof (fun k hk => by have := (r2.lt k hk).1; omega)
  have e3 := own_off r3 hof (fun k hk => by have := (r3.lt k hk).1; omega)
  have hq := ((HQ5.out.put 0 (.slice A1 now.length c1)).put 1 (.slice A2 sure.length c2)).put 2 (.slice A3 log.length c3)
  refine DAt.newDisk (DAt.build (b1 := w1.drew.heap.size) (b2 := w3.heap.size) (b3 := w4.heap.size) (s := ⟨now, sure, log, ops, fuse, down⟩) (by simpa using hq) e1 (fun k hk => (r1.lt k hk).2) e2 (fun k hk => (r2.lt k hk).2) e3 (Nat.le_refl _) (by omega) (by omega) (by omega) HK.out) ?_
  exact HBn3.out.trans (hof.below HBn3.out.size (fun i hi => by omega))
end
end Go.Proofs.Ytcgmgogkfhlgpaa
