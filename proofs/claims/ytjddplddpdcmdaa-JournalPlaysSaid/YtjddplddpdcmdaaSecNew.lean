/- Contracts of sector.New and sector.Disk's Copy. -/
import Derived.Test.YtjddplddpdcmdaaSecFl
import Derived.Laws.MakeOwn
import Derived.Lib.SliceRun
namespace Go.Proofs.Ytjddplddpdcmdaa
open Go.RowKit
set_option linter.unusedVariables false
set_option linter.unusedSimpArgs false

theorem zeros_made (m : Nat) : madeCells zSec.toArray (m * 64) = ((List.replicate m (List.replicate 64 (0 : UInt8))).flatMap bytesV).toArray := by
  have h1 : ∀ k, ((List.replicate k (List.replicate 64 (0 : UInt8))).flatMap bytesV) = List.replicate (k * 64) (Value.int .u8 0) := by
    intro k
    induction k with
    | zero => rfl
    | succ k ih =>
      rw [List.replicate_succ, List.flatMap_cons, ih, Nat.succ_mul, Nat.add_comm, ← List.replicate_append_replicate]
      congr 1
  rw [h1]
  apply Array.ext
  · simp [madeCells]
  · intro i h2 h3
    have hz : ∀ j, j < 64 → zSec.toArray[j]! = .int .u8 0 := by
      intro j hj
      have h : j < zSec.toArray.size := by rw [List.size_toArray, len_zSec]; exact hj
      rw [getElem!_pos zSec.toArray j h]
      exact List.eq_of_mem_replicate (List.getElem_mem (l := zSec) (by simpa using h))
    simp only [madeCells, Array.getElem_map, Array.getElem_range, List.getElem_toArray, List.getElem_replicate]
    exact hz _ (by rw [List.size_toArray, len_zSec]; exact Nat.mod_lt _ (by omega))
theorem run_make_sec (w : World) (m : Nat) (hm : m ≤ 4096) : (Instr.makeSlice 61 (.int .i64 (m : Int)) (.int .i64 (m : Int))).run Try.prog w = .ok (.slice (some ⟨w.heap.size, 0, none⟩) m m) (w.alloc (.cells ((List.replicate m (List.replicate 64 (0 : UInt8))).flatMap bytesV).toArray 74)) := by
  obtain ⟨i, hi, hz, hs, hb⟩ := info_parts elem_sec.info
  have := run_make w 61 74 i _ Try.underlying61 hi hz .i64 .i64 m m (by omega) (Int.le_refl _) (by rw [hb]; omega) (by omega)
  rw [this, hs, Int.toNat_natCast]
  have hc : (Value.agg (List.replicate 64 (Value.int .u8 0)).toArray).cells = zSec.toArray := rfl
  rw [hc, zeros_made]
theorem run_min_max (n : Int) : ∃ m : Nat, max 0 (min n 4096) = (m : Int) ∧ m ≤ 4096 := ⟨(max 0 (min n 4096)).toNat, by omega, by omega⟩
theorem run_min_int {P : Program} {w : World} (ts : Array TypeId) (t : TypeId) (x y : Int) : (Builtin.min_ ts t #[.int .i64 x, .int .i64 y]).run P w = .ok (.int .i64 (min x y)) w := by
  rw [run_min_int2]
  congr 2
  omega
theorem run_max_int {P : Program} {w : World} (ts : Array TypeId) (t : TypeId) (x y : Int) : (Builtin.max_ ts t #[.int .i64 x, .int .i64 y]).run P w = .ok (.int .i64 (max x y)) w := by
  rw [run_max_int2]
  congr 2
  omega
attribute [local go_sem high] run_min_int run_max_int
theorem rep_len (m : Nat) : ∀ b ∈ List.replicate m (List.replicate 64 (0 : UInt8)), (bytesV b).length = 64 := fun b hb => by
  rw [length_bytesV, (List.mem_replicate.1 hb).2]
  simp
theorem DAt.made {w w' : World} {g g2 q m : Nat} (hm : m ≤ 4096) (h1 : Blk w' g 74 ((List.replicate m (List.replicate 64 (0 : UInt8))).flatMap bytesV)) (h2 : Blk w' g2 74 ((List.replicate m (List.replicate 64 (0 : UInt8))).flatMap bytesV))
    (h3 : Blk w' q 64 [.slice (some ⟨g, 0, none⟩) m m, .slice (some ⟨g2, 0, none⟩) m m, .slice none 0 0, .int .i64 0, .int .i64 0, .bool false]) (b1 : w.heap.size ≤ g) (b2 : w.heap.size ≤ g2) (b3 : w.heap.size ≤ q) (n1 : g ≠ q) (n2 : g2 ≠ q) (n3 : g ≠ g2) :
    DAt w.heap.size w' q (.slice (some ⟨g, 0, none⟩) m m) (.slice (some ⟨g2, 0, none⟩) m m) (.slice none 0 0) (Dk.new m) := by
  have hl : ((List.replicate m (List.replicate 64 (0 : UInt8))).flatMap bytesV).length = m * 64 := by
    rw [flat_length bytesV 64 _ (rep_len m), List.length_replicate]
  have e1 := h1.own (size := 64) b1 (Nat.le_refl m) (by unfold maxLen; omega) hl
  have e2 := h2.own (size := 64) b2 (Nat.le_refl m) (by unfold maxLen; omega) hl
  rw [List.take_of_length_le (by omega)] at e1 e2
  have hr : (List.replicate m (List.replicate 64 (0 : UInt8))).length = m := by simp
  refine ⟨h3, by simpa [Dk.new] using e1, by simpa [Dk.new] using e2, ownsRow_none _ _ _ _, b3, ?_, ?_, ?_, ?_, ?_, ?_, Dk.new_ok hm⟩
  · intro e; injection e with e; exact n1 e
  · intro e; injection e with e; exact n2 e
  · intro e; cases e
  · intro k hk e; injection hk with hk; injection e with e; exact n3 (hk.trans e.symm)
  · intro k hk e; cases e
  · intro k hk e; cases e
/-- a new disk -/
def NewDisk (w : World) (s : Dk) (en : Ending) (w' : World) : Prop :=
  ∃ q, en = .returned (.pointer (some ⟨q, 0, none⟩)) ∧ DiskIs w.heap.size (fun i => w.heap.size ≤ i ∧ i < w'.heap.size) w' q s ∧ Below w.heap.size w w'
theorem DAt.newDisk {w w' : World} {q : Nat} {nv sv lv : Value} {s : Dk} (h : DAt w.heap.size w' q nv sv lv s) (hb : Below w.heap.size w w') : NewDisk w s (.returned (.pointer (some ⟨q, 0, none⟩))) w' :=
  ⟨q, rfl, ⟨nv, sv, lv, h, h.lt⟩, hb⟩
set_option maxHeartbeats 800000 in
set_option maxRecDepth 100000 in
theorem snew_any (w : World) (n : Int) (m : Nat) (hm : max 0 (min n 4096) = (m : Int)) : Calls Try.prog 10 #[.int .i64 n] w (NewDisk w (Dk.new m)) := by
  have h4 : m ≤ 4096 := by omega
  have HM := Lib.hid hm
  have HMK := Lib.hid (fun (w : World) => run_make_sec w m h4)
  obtain ⟨Z, hz⟩ : ∃ Z, ((List.replicate m (List.replicate 64 (0 : UInt8))).flatMap bytesV).toArray = Z := ⟨_, rfl⟩
  have HZ : Hid (Z.toList = (List.replicate m (List.replicate 64 (0 : UInt8))).flatMap bytesV) := Lib.hid (by rw [← hz])
  rw [hz] at HMK
  have q1 := HMK.out
  clear hz
  go_enter Try.func10, Try.ntmps10
  go_upto_region 2 with fail
  clear hm
  refine wp_region_held_drew (S := (fun _ => True)) (by kernel_rfl) (trivial) (fun hHeld => ?_)
  refine' wpAnyH_take (i := 0) (v := _) rfl (by kernel_rfl) (by kernel_rfl) (by kernel_rfl) (fun _ _ _ h => h) (Or.inl ⟨by rfl, ?taq1⟩) (by assumption) ?tbq1
  case taq1 =>
    intro wS hSw
    (try dsimp only at hSw)
    go_simp
    (try (with_reducible rfl))
  (try simp only [List.getElem_toArray, List.getElem_cons_zero, List.getElem_cons_succ, Act.put, List.setIfInBounds_toArray, List.set_cons_zero, List.set_cons_succ])
  refine' wpAnyH_take (i := 2) (v := _) rfl (by kernel_rfl) (by kernel_rfl) (by kernel_rfl) (fun _ _ _ h => h) (Or.inl ⟨by rfl, ?taq2⟩) (by assumption) ?tbq2
  case taq2 =>
    intro wS hSw
    (try dsimp only at hSw)
    go_simp
    (try (with_reducible rfl))
  (try simp only [List.getElem_toArray, List.getElem_cons_zero, List.getElem_cons_succ, Act.put, List.setIfInBounds_toArray, List.set_cons_zero, List.set_cons_succ])
  refine wpAnyH_ready (rs := [1, 3]) (by kernel_rfl) (by simp) ?_
  refine AllReadyH.cons rfl (fun K9 hK9 => ?_) (AllReadyH.cons rfl (fun K9 hK9 => ?_) AllReadyH.nil)
  · (try simp only [List.getElem_toArray, List.getElem_cons_zero, List.getElem_cons_succ])
    go_simp
    refine hK9.out _ _ (trivial) (fun hHeld9 => ?_)
    clear hK9 K9
    (try simp only [List.getElem_toArray, List.getElem_cons_zero, List.getElem_cons_succ, Act.put, List.setIfInBounds_toArray, List.set_cons_zero, List.set_cons_succ])
    refine wpAnyH_ready (rs := [3]) (by kernel_rfl) (by simp) ?_
    refine AllReadyH.cons rfl (fun K9 hK9 => ?_) AllReadyH.nil
    (try simp only [List.getElem_toArray, List.getElem_cons_zero, List.getElem_cons_succ])
    go_simp
    refine hK9.out _ _ (trivial) (fun hHeld9 => ?_)
    clear hK9 K9
    (try simp only [List.getElem_toArray, List.getElem_cons_zero, List.getElem_cons_succ, Act.put, List.setIfInBounds_toArray, List.set_cons_zero, List.set_cons_succ])
    refine' wpAnyH_take (i := 4) (v := _) rfl (by kernel_rfl) (by kernel_rfl) (by kernel_rfl) (fun _ _ _ h => h) (Or.inl ⟨by rfl, ?taq3⟩) (by assumption) ?tbq3
    case taq3 =>
      intro wS hSw
      (try dsimp only at hSw)
      go_simp
      (try (with_reducible rfl))
    (try simp only [List.getElem_toArray, List.getElem_cons_zero, List.getElem_cons_succ, Act.put, List.setIfInBounds_toArray, List.set_cons_zero, List.set_cons_succ])
    refine wpAnyH_ready (rs := [5]) (by kernel_rfl) (by simp) ?_
    refine AllReadyH.cons rfl (fun K9 hK9 => ?_) AllReadyH.nil
    (try simp only [List.getElem_toArray, List.getElem_cons_zero, List.getElem_cons_succ])
    go_simp
    refine hK9.out _ _ (trivial) (fun hHeld9 => ?_)
    clear hK9 K9
    (try simp only [List.getElem_toArray, List.getElem_cons_zero, List.getElem_cons_succ, Act.put, List.setIfInBounds_toArray, List.set_cons_zero, List.set_cons_succ])
    refine' wpAnyH_take (i := 6) (v := _) rfl (by kernel_rfl) (by kernel_rfl) (by kernel_rfl) (fun _ _ _ h => h) (Or.inl ⟨by rfl, ?taq4⟩) (by assumption) ?tbq4
    case taq4 =>
      intro wS hSw
      (try dsimp only at hSw)
      go_simp
      (try (with_reducible rfl))
    (try simp only [List.getElem_toArray, List.getElem_cons_zero, List.getElem_cons_succ, Act.put, List.setIfInBounds_toArray, List.set_cons_zero, List.set_cons_succ])
    refine wpAnyH_done (by kernel_rfl) ?_ _
    go_wp2
    go_ret
    have h1 := ((Blk.freshA w 74 Z).alloc (.cells Z 74)).alloc (.cells #[.slice (some ⟨w.heap.size, 0, none⟩) m m, .slice (some ⟨w.heap.size + 1, 0, none⟩) m m, .slice none 0 0, .int .i64 0, .int .i64 0, .bool false] 64)
    have h2 := (Blk.freshA (w.alloc (.cells Z 74)) 74 Z).alloc (.cells #[.slice (some ⟨w.heap.size, 0, none⟩) m m, .slice (some ⟨w.heap.size + 1, 0, none⟩) m m, .slice none 0 0, .int .i64 0, .int .i64 0, .bool false] 64)
    have h3 := Blk.freshA ((w.alloc (.cells Z 74)).alloc (.cells Z 74)) 64 #[.slice (some ⟨w.heap.size, 0, none⟩) m m, .slice (some ⟨w.heap.size + 1, 0, none⟩) m m, .slice none 0 0, .int .i64 0, .int .i64 0, .bool false]
    rw [HZ.out] at h1 h2
    simp only [World.size_alloc] at h2 h3
    have hb : Below w.heap.size w ((((w.alloc (.cells Z 74)).alloc (.cells Z 74)).alloc (.cells #[.slice (some ⟨w.heap.size, 0, none⟩) m m, .slice (some ⟨w.heap.size + 1, 0, none⟩) m m, .slice none 0 0, .int .i64 0, .int .i64 0, .bool false] 64)).drew) := ((((Below.refl w.heap.size w).alloc (Nat.le_refl _) _).alloc (by simp) _).alloc (by simp; omega) _).drew
    exact DAt.newDisk (DAt.made (w' := (((w.alloc (.cells Z 74)).alloc (.cells Z 74)).alloc (.cells #[.slice (some ⟨w.heap.size, 0, none⟩) m m, .slice (some ⟨w.heap.size + 1, 0, none⟩) m m, .slice none 0 0, .int .i64 0, .int .i64 0, .bool false] 64)).drew) h4 h1 h2 h3 (by omega) (by omega) (by omega) (by omega) (by omega) (by omega)) hb
  · (try simp only [List.getElem_toArray, List.getElem_cons_zero, List.getElem_cons_succ])
    go_simp
    refine hK9.out _ _ (trivial) (fun hHeld9 => ?_)
    clear hK9 K9
    (try simp only [List.getElem_toArray, List.getElem_cons_zero, List.getElem_cons_succ, Act.put, List.setIfInBounds_toArray, List.set_cons_zero, List.set_cons_succ])
    refine wpAnyH_ready (rs := [1]) (by kernel_rfl) (by simp) ?_
    refine AllReadyH.cons rfl (fun K9 hK9 => ?_) AllReadyH.nil
    (try simp only [List.getElem_toArray, List.getElem_cons_zero, List.getElem_cons_succ])
    go_simp
    refine hK9.out _ _ (trivial) (fun hHeld9 => ?_)
    clear hK9 K9
    (try simp only [List.getElem_toArray, List.getElem_cons_zero, List.getElem_cons_succ, Act.put, List.setIfInBounds_toArray, List.set_cons_zero, List.set_cons_succ])
    refine' wpAnyH_take (i := 4) (v := _) rfl (by kernel_rfl) (by kernel_rfl) (by kernel_rfl) (fun _ _ _ h => h) (Or.inl ⟨by rfl, ?taq5⟩) (by assumption) ?tbq5
    case taq5 =>
      intro wS hSw
      (try dsimp only at hSw)
      go_simp
      (try (with_reducible rfl))
    (try simp only [List.getElem_toArray, List.getElem_cons_zero, List.getElem_cons_succ, Act.put, List.setIfInBounds_toArray, List.set_cons_zero, List.set_cons_succ])
    refine wpAnyH_ready (rs := [5]) (by kernel_rfl) (by simp) ?_
    refine AllReadyH.cons rfl (fun K9 hK9 => ?_) AllReadyH.nil
    (try simp only [List.getElem_toArray, List.getElem_cons_zero, List.getElem_cons_succ])
    go_simp
    refine hK9.out _ _ (trivial) (fun hHeld9 => ?_)
    clear hK9 K9
    (try simp only [List.getElem_toArray, List.getElem_cons_zero, List.getElem_cons_succ, Act.put, List.setIfInBounds_toArray, List.set_cons_zero, List.set_cons_succ])
    refine' wpAnyH_take (i := 6) (v := _) rfl (by kernel_rfl) (by kernel_rfl) (by kernel_rfl) (fun _ _ _ h => h) (Or.inl ⟨by rfl, ?taq6⟩) (by assumption) ?tbq6
    case taq6 =>
      intro wS hSw
      (try dsimp only at hSw)
      go_simp
      (try (with_reducible rfl))
    (try simp only [List.getElem_toArray, List.getElem_cons_zero, List.getElem_cons_succ, Act.put, List.setIfInBounds_toArray, List.set_cons_zero, List.set_cons_succ])
    refine wpAnyH_done (by kernel_rfl) ?_ _
    go_wp2
    go_ret
    have h1 := ((Blk.freshA w 74 Z).alloc (.cells Z 74)).alloc (.cells #[.slice (some ⟨w.heap.size + 1, 0, none⟩) m m, .slice (some ⟨w.heap.size, 0, none⟩) m m, .slice none 0 0, .int .i64 0, .int .i64 0, .bool false] 64)
    have h2 := (Blk.freshA (w.alloc (.cells Z 74)) 74 Z).alloc (.cells #[.slice (some ⟨w.heap.size + 1, 0, none⟩) m m, .slice (some ⟨w.heap.size, 0, none⟩) m m, .slice none 0 0, .int .i64 0, .int .i64 0, .bool false] 64)
    have h3 := Blk.freshA ((w.alloc (.cells Z 74)).alloc (.cells Z 74)) 64 #[.slice (some ⟨w.heap.size + 1, 0, none⟩) m m, .slice (some ⟨w.heap.size, 0, none⟩) m m, .slice none 0 0, .int .i64 0, .int .i64 0, .bool false]
    rw [HZ.out] at h1 h2
    simp only [World.size_alloc] at h2 h3
    have hb : Below w.heap.size w ((((w.alloc (.cells Z 74)).alloc (.cells Z 74)).alloc (.cells #[.slice (some ⟨w.heap.size + 1, 0, none⟩) m m, .slice (some ⟨w.heap.size, 0, none⟩) m m, .slice none 0 0, .int .i64 0, .int .i64 0, .bool false] 64)).drew) := ((((Below.refl w.heap.size w).alloc (Nat.le_refl _) _).alloc (by simp) _).alloc (by simp; omega) _).drew
    exact DAt.newDisk (DAt.made (w' := (((w.alloc (.cells Z 74)).alloc (.cells Z 74)).alloc (.cells #[.slice (some ⟨w.heap.size + 1, 0, none⟩) m m, .slice (some ⟨w.heap.size, 0, none⟩) m m, .slice none 0 0, .int .i64 0, .int .i64 0, .bool false] 64)).drew) h4 h2 h1 h3 (by omega) (by omega) (by omega) (by omega) (by omega) (by omega)) hb
end Go.Proofs.Ytjddplddpdcmdaa
