/- Contracts of pedagoguelaw5's full and Sector. -/
import Derived.Test.YtcgmgogkfhlgpaaSecNew
namespace Go.Proofs.Ytcgmgogkfhlgpaa
open Go.RowKit
set_option linter.unusedVariables false
set_option linter.unusedSimpArgs false

/-- 64 bytes of a new block -/
def Filled (w : World) (bs : List UInt8) (en : Ending) (w' : World) : Prop :=
  ∃ g, en = .returned (.slice (some ⟨g, 0, none⟩) 64 64) ∧ Blk w' g 5 (bytesV bs) ∧ bs.length = 64 ∧ w.heap.size ≤ g ∧ Below w.heap.size w w'
theorem elem_u8b : ElemOf Try.prog 22 5 (.int .u8 0) 1 := ⟨Try.underlying22, by kernel_rfl, rfl⟩
/-- copy(dst, src): bytes into a block known whole -/
theorem run_copy_bytes (w : World) (ty : TypeId) {B g n : Nat} {ds bs : List UInt8} {sv : Value} (hk : Blk w g 5 (bytesV ds)) (hn : ds.length = n) (hs : Reads w B sv (bytesV bs)) :
    ∃ w', (Builtin.copy_ #[22, 22] ty #[.slice (some ⟨g, 0, none⟩) n n, sv]).run Try.prog w = .ok (goInt (Nat.min bs.length n)) w' ∧ Blk w' g 5 (bytesV (bs.take n ++ ds.drop bs.length)) ∧ Off (fun i => i = g) w w' := by
  have hu := Try.underlying22
  have hi : (Try.prog.info? 5).map (·.size) = some 1 := by kernel_rfl
  obtain ⟨A, m, c, rfl, hm, hc, hcm, hat⟩ := hs
  rw [length_bytesV] at hm
  subst hm
  by_cases h0 : Nat.min bs.length n = 0
  · refine ⟨w, ?_, ?_, Off.refl _ _⟩
    · rw [h0]
      exact run_copyN_none w _ _ ty 5 _ _ _ _ _ _ 1 hu hi h0
    · have : bs.take n ++ ds.drop bs.length = ds := by
        rcases Nat.eq_zero_or_pos bs.length with h1 | h1
        · rw [List.eq_nil_of_length_eq_zero h1]; simp
        · have h2 : n = 0 := by
            rcases Nat.le_total bs.length n with h3 | h3
            · rw [show Nat.min bs.length n = min bs.length n from rfl, Nat.min_eq_left h3] at h0; omega
            · rw [show Nat.min bs.length n = min bs.length n from rfl, Nat.min_eq_right h3] at h0; exact h0
          subst h2
          rw [List.eq_nil_of_length_eq_zero hn]
          simp
      rw [this]
      exact hk
  · have hp : 0 < bs.length := by
      rcases Nat.eq_zero_or_pos bs.length with h1 | h1
      · rw [h1] at h0; exact absurd (Nat.zero_min n) h0
      · exact h1
    obtain ⟨g', o', rfl, hg', hx⟩ := hat.out hp
    have hml : (bytesV (bs.take n)).length = Nat.min bs.length n := by
      rw [length_bytesV, List.length_take, Nat.min_comm]
    have hle : Nat.min bs.length n ≤ n := Nat.min_le_right _ _
    refine ⟨w.setCells g 0 (bytesV (bs.take n)), run_copyN w _ _ ty 5 g 0 n n bs.length c 1 (Nat.min bs.length n) ⟨g', o', none⟩ (bytesV (bs.take n)) hu hi rfl (by rw [hml, Nat.mul_one]) (fun j v hv => ?_) (hk.there 0 _ (by rw [hml, length_bytesV]; omega)) (bytesV_one _), ?_, (Off.refl (fun i => i = g) w).setCells _ 0 (.inl rfl)⟩
    · rw [addr_add]
      refine hx j v ?_
      rw [← bytesV_take, List.getElem?_take] at hv
      split at hv
      · exact hv
      · cases hv
    · have h2 := Blk.setCells (bytesV (bs.take n)) 0 hk (by rw [hml, length_bytesV]; omega)
      rw [List.take_zero, List.nil_append, Nat.zero_add, hml, bytesV_drop, bytesV_append] at h2
      have e : ds.drop (Nat.min bs.length n) = ds.drop bs.length := by
        rcases Nat.le_total bs.length n with h3 | h3
        · rw [show Nat.min bs.length n = min bs.length n from rfl, Nat.min_eq_left h3]
        · rw [show Nat.min bs.length n = min bs.length n from rfl, Nat.min_eq_right h3, List.drop_of_length_le (by omega), List.drop_of_length_le (by omega)]
      rwa [e] at h2
theorem wpList_copy_bytes {ops : Array Oper} {rest : List Oper} {o : Oper} {a : Act} {w : World} {Q : Exit → Act → World → Prop} (hgd : o.guard = none) (d s : Operand)
    (ho : o.op = .call { callee := .builtin .copy, args := #[d, s], argTypes := #[22, 22] }) (B g n : Nat) (ds bs : List UInt8) (sv : Value) (hd : a.eval d = .slice (some ⟨g, 0, none⟩) n n) (hs : a.eval s = sv)
    (hk : Blk w g 5 (bytesV ds)) (hn : ds.length = n) (hr : Reads w B sv (bytesV bs))
    (h : ∀ w', Blk w' g 5 (bytesV (bs.take n ++ ds.drop bs.length)) → Off (fun i => i = g) w w' → wpList Try.prog ops Q rest (a.put o.dst (goInt (Nat.min bs.length n))) w') : wpList Try.prog ops Q (o :: rest) a w := by
  obtain ⟨w', hrun, h2, h3⟩ := run_copy_bytes w o.type hk hn hr
  refine wpList_plain hgd fun K hK => ?_
  unfold Oper.wp execOp
  simp only [ho, resolve, invoke, builtin, Sem.run_bind, Sem.run_pure, Result.andThen_ok, List.map_toArray, List.map_cons, List.map_nil, hd, hs, hrun]
  exact hK _ _ (h w' h2 h3)
theorem bytesV_set (bs : List UInt8) (i : Nat) (b : UInt8) : (bytesV bs).set i (.int .u8 (b.toNat : Int)) = bytesV (bs.set i b) := by simp [bytesV, List.map_set]
set_option maxHeartbeats 800000 in
theorem full_any (w : World) (b : UInt8) (x : Int) (hx : x = (b.toNat : Int)) : Calls Try.prog 16 #[.int .u8 x] w (Filled w (List.replicate 64 b)) := by
  subst hx
  have hmk : ∀ (W : World), (Instr.makeSlice 22 (.int .i64 64) (.int .i64 64)).run Try.prog W = .ok (.slice (some ⟨W.heap.size, 0, none⟩) 64 64) (W.alloc (.cells (zerosA (.int .u8 0) 64) 5)) := fun W => by
    obtain ⟨i, hi, hz, hs, hb⟩ := info_parts elem_u8b.info
    exact run_make1 22 5 i _ elem_u8b.und hi hz hs rfl .i64 .i64 64 (by rw [hb]; omega) (by omega) W
  go_enter Try.func16, Try.ntmps16
  go_upto_region 2 with fail
  have kz : Blk (w.alloc (.cells (zerosA (.int .u8 0) 64) 5)) w.heap.size 5 (bytesV (List.replicate 64 0)) := by
    have h := Blk.freshA w 5 (zerosA (.int .u8 0) 64)
    rw [zerosA_toList] at h
    exact h
  have hb0 : Below w.heap.size w (w.alloc (.cells (zerosA (.int .u8 0) 64) 5)) := (Below.refl _ _).alloc (Nat.le_refl _) _
  have KZ := Lib.hid kz
  have HB0 := Lib.hid hb0
  clear kz hb0 hmk
  generalize (w.alloc (.cells (zerosA (.int .u8 0) 64) 5)) = wA at KZ HB0 ⊢
  go_wp2
  go_loopw [8] (fun i wr => ∃ (k : Nat) (bs : List UInt8), k ≤ 64 ∧ i = .int .i64 k ∧ Hid (bs.length = 64 ∧ bs.take k = List.replicate k b) ∧ Hid (Blk wr w.heap.size 5 (bytesV bs)) ∧ Hid (Below w.heap.size w wr)) (fun i _ => 64 - (intOf i).toNat)
  case atStart => exact ⟨0, List.replicate 64 0, by omega, rfl, Lib.hid ⟨by simp, by simp⟩, KZ, HB0⟩
  case round =>
    obtain ⟨k, bs, hk, rfl, hbs, hblk, hbel⟩ := hrel
    by_cases hlt : k < 64
    · obtain ⟨y, hy⟩ : ∃ y, bs[k]? = some y := ⟨bs[k]'(by rw [hbs.out.1]; exact hlt), List.getElem?_eq_getElem _⟩
      have c0 : wr.cell? ⟨w.heap.size, k, none⟩ = some (.int .u8 (y.toNat : Int)) := by
        rw [hblk.out.cell]
        simp [bytesV, hy]
      have f0 := hblk.out.free k
      have i0 : (0 : Int) ≤ (k : Int) := by omega
      have i1 : (k : Int) < 64 := by omega
      clear hy
      go_wp2
      go_roundw
      case rel =>
        have hb5 : Below w.heap.size w (wr.setCell ⟨w.heap.size, k, none⟩ (.int .u8 (b.toNat : Int))) := hbel.out.setCell (Nat.le_refl w.heap.size) _
        have hk5 := hblk.out.put k (.int .u8 (b.toNat : Int))
        rw [bytesV_set] at hk5
        refine ⟨k + 1, bs.set k b, by omega, by go_num, Lib.hid ⟨by simpa using hbs.out.1, ?_⟩, Lib.hid hk5, Lib.hid hb5⟩
        · rw [List.take_add_one, List.take_set_of_le (Nat.le_refl _), hbs.out.2, List.getElem?_set_self (by rw [hbs.out.1]; exact hlt), List.replicate_succ']
          rfl
      case measure => simp [intOf]; omega
    · have hk64 : k = 64 := by omega
      subst hk64
      have HE : Hid (bs = List.replicate 64 b) := Lib.hid (by
        have := hbs.out.2
        rwa [List.take_of_length_le (by rw [hbs.out.1]; omega)] at this)
      go_wp2
      go_ret
      rw [← HE.out]
      exact ⟨_, rfl, hblk.out, hbs.out.1, Nat.le_refl _, hbel.out⟩
/-- a sector's bytes of some -/
def secI (bs : List UInt8) (x : UInt8) : List UInt8 := bs.take 64 ++ List.replicate (64 - bs.length) x
theorem secI_len (bs : List UInt8) (x : UInt8) : (secI bs x).length = 64 := by
  unfold secI
  rw [List.length_append, List.length_take, List.length_replicate]
  omega
set_option maxHeartbeats 800000 in
theorem sectorL_any (w : World) (B : Nat) (bv : Value) (bs : List UInt8) (hb : Reads w B bv (bytesV bs)) (hB : B ≤ w.heap.size) (b : UInt8) (x : Int) (hx : x = (b.toNat : Int)) : Calls Try.prog 11 #[bv, .int .u8 x] w (Filled w (secI bs b)) := by
  subst hx
  have hf := full_any w b _ rfl
  have hl9 := List.drop_replicate (i := bs.length) (n := 64) (a := b)
  generalize List.replicate 64 b = ds at hf hl9
  have HF := Lib.hid hf
  clear hf
  obtain ⟨xs, hxs⟩ : ∃ xs, secI bs b = xs := ⟨_, rfl⟩
  have HX : Hid (bs.take 64 ++ ds.drop bs.length = xs) := Lib.hid (by rw [← hxs, hl9]; rfl)
  have HXL : Hid (xs.length = 64) := Lib.hid (by rw [← hxs]; exact secI_len _ _)
  rw [hxs]
  clear hl9 hxs
  obtain ⟨A, n, c, rfl, hn, hc, hm, hat⟩ := hb
  rw [length_bytesV] at hn
  subst hn
  have hb : Reads w B (.slice A bs.length c) (bytesV bs) := ⟨A, _, c, rfl, length_bytesV bs, hc, hm, hat⟩
  have HBB := Lib.hid hb
  clear hat hb
  go_enter Try.func11, Try.ntmps11
  go_wp2_with fail
  refine HF.out.mono ?_
  rintro en w2 ⟨g, rfl, hblk, hdl, hg, hb2⟩
  have HDL := Lib.hid hdl
  have HR2 := Lib.hid (HBB.out.below (hb2.mono hB))
  have HBK := Lib.hid hblk
  have HB2 := Lib.hid hb2
  clear hblk hb2 HBB hdl
  go_wp2_with (refine wpList_copy_bytes rfl (.tmp 8) (.tmp 9) rfl B g 64 ds bs (.slice A bs.length c) rfl rfl HBK.out HDL.out HR2.out ?_; intro w3 hk3 hof3)
  go_ret
  rw [HX.out] at hk3
  exact ⟨g, rfl, hk3, HXL.out, hg, HB2.out.trans (hof3.below HB2.out.size (fun i hi => by rw [hi]; exact hg))⟩
end Go.Proofs.Ytcgmgogkfhlgpaa
