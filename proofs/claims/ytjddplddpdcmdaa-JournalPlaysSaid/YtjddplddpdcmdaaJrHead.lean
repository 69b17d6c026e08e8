/- Contract of journal.head. -/
import Derived.Test.YtjddplddpdcmdaaWriter2
import Derived.Test.YtjddplddpdcmdaaJrCrc
import Derived.Test.YtjddplddpdcmdaaJrPlain
import Derived.Test.YtjddplddpdcmdaaJrZeros
import Derived.Lib.SlBytesConst
namespace Go.Proofs.Ytjddplddpdcmdaa
open Go.RowKit
set_option linter.unusedVariables false
set_option linter.unusedSimpArgs false

theorem reads_const (w : World) (bs : List UInt8) (e : TypeId) (k : Nat × Nat) (C : Array Value) (n : Nat) (hn : n = bs.length) (hC : C.toList = bytesV bs) (hm : bs.length ≤ maxLen) :
    Reads (w.alloc (.cells C e k)) (w.heap.size + 1) (.slice (some ⟨w.heap.size, 0, none⟩) n n) (bytesV bs) := by
  subst hn
  refine ⟨some ⟨w.heap.size, 0, none⟩, _, _, rfl, length_bytesV bs, Nat.le_refl _, hm, fun _ => ⟨w.heap.size, 0, rfl, by omega, fun j u hu => ?_⟩⟩
  rw [← hC] at hu
  rw [Nat.zero_add]
  have : (w.alloc (.cells C e k)).heap[w.heap.size]? = some (.cells C e k) := by
    show (w.heap.push (.cells C e k))[w.heap.size]? = _
    simp
  simp only [World.cell?, this]
  simpa using hu
/-- a writer made since w0 -/
structure HS (w0 W : World) (p : Nat) (u : Value) (bs : List UInt8) : Prop where
  wr : Wr W w0.heap.size p u bs
  at_ : w0.heap.size ≤ p
  bel : Below w0.heap.size w0 W
section
variable {w0 W W' : World} {p : Nat} {u : Value} {bs bs' : List UInt8} {en : Ending}
theorem HS.start (w : World) : HS w (w.alloc (.cells #[.slice none 0 0] 100)) w.heap.size (.slice none 0 0) [] :=
  ⟨⟨Blk.fresh w _ _, World.ownsRow_nil _ _ _ _, by simp [Value.ownBlock]⟩, Nat.le_refl _, (Below.refl _ _).alloc (Nat.le_refl _) _⟩
theorem HS.put (h : HS w0 W p u bs) (hp : Put W w0.heap.size p u bs' en W') : en = .returned (.tuple #[]) ∧ ∃ u', HS w0 W' p u' bs' := by
  obtain ⟨he, u', h1, h2, h3⟩ := hp
  have hs := h.bel.size
  refine ⟨he, u', h1, h.at_, h.bel.trans (h3.below hs (fun i hi => ?_))⟩
  rcases hi with rfl | hi
  · exact h.at_
  · exact (h.wr.own.lt i hi).1
theorem HS.below (h : HS w0 W p u bs) (hb : Below W.heap.size W W') : HS w0 W' p u bs := ⟨h.wr.below hb, h.at_, h.bel.trans (hb.mono h.bel.size)⟩
end
set_option maxHeartbeats 1600000 in
set_option maxRecDepth 100000 in
theorem head_any (w : World) (B : Nat) (v : Value) (b : List UInt8) (h : Reads w B v (bytesV b)) (hB : B ≤ w.heap.size) (gen : Nat) (hg : gen < 4294967296) (hl : b.length < 4294967296) :
    Calls Try.prog 53 #[.int .u32 (gen : Int), v] w (NewBytes w (headB gen b)) := by
  obtain ⟨A, c, rfl, _, _⟩ := h.form
  rw [length_bytesV] at h ⊢
  have HR := Lib.hid h
  have HG := Lib.hid hg
  have HL := Lib.hid hl
  have hcv : IntKind.u32.wrap (b.length : Int) = (b.length : Int) := by rw [IntKind.wrap_u32]; omega
  obtain ⟨n, hn⟩ : ∃ n, b.length = n := ⟨_, rfl⟩
  rw [hn] at hcv HR HL ⊢
  have HN := Lib.hid hn
  clear h hg hl hn
  go_enter Try.func53, Try.ntmps53
  have kc := Lib.run_convert_bytes_const (P := Try.prog) (w.alloc (.cells #[.slice none 0 0] 100)) 31 5 #[.int .u8 112, .int .u8 100, .int .u8 103, .int .u8 113] 4 4 Try.underlying31 Try.underlying5
  have hk := reads_const (w.alloc (.cells #[.slice none 0 0] 100)) [112, 100, 103, 113] 5 (4, 5) #[.int .u8 112, .int .u8 100, .int .u8 103, .int .u8 113] 4 rfl rfl (by decide)
  rw [World.size_alloc] at kc hk
  simp only [List.size_toArray, List.length_cons, List.length_nil, Nat.zero_add, Nat.reduceAdd] at kc
  have h0 := HS.start w
  have h1 := h0.below ((Below.refl _ _).alloc (Nat.le_refl _) (.cells #[.int .u8 112, .int .u8 100, .int .u8 103, .int .u8 113] 5 (4, 5)))
  have HK := Lib.hid hk
  have H1 := Lib.hid h1
  clear h0 h1 hk
  go_wp2_with fail
  refine (raw_any _ w.heap.size _ _ [] H1.out.wr H1.out.bel.size _ _ [112, 100, 103, 113] HK.out (by simp)).mono ?_
  intro en w2 hp
  obtain ⟨rfl, u2, hq⟩ := H1.out.put hp
  rw [List.nil_append] at hq
  have H2 := Lib.hid hq
  clear hp hq H1 HK kc
  go_wp2_with fail
  refine (u32_any _ w.heap.size _ _ _ H2.out.wr H2.out.bel.size _ gen rfl HG.out (by simp)).mono ?_
  intro en w3 hp
  obtain ⟨rfl, u3, hq⟩ := H2.out.put hp
  have H3 := Lib.hid hq
  clear hp hq H2
  go_wp2_with fail
  refine (u32_any _ w.heap.size _ _ _ H3.out.wr H3.out.bel.size _ n rfl HL.out (by simp [length_beB])).mono ?_
  intro en w4 hp
  obtain ⟨rfl, u4, hq⟩ := H3.out.put hp
  have H4 := Lib.hid hq
  clear hp hq H3
  go_wp2_with fail
  refine (crc_any _ B _ b (HR.out.below (H4.out.bel.mono hB))).mono ?_
  rintro en w5 ⟨rfl, rfl⟩
  go_wp2_with fail
  refine (u32_any _ w.heap.size _ _ _ H4.out.wr H4.out.bel.size _ (crcN b) rfl (crcN_lt b) (by simp [length_beB])).mono ?_
  intro en w5 hp
  obtain ⟨rfl, u5, hq⟩ := H4.out.put hp
  have HCO : Hid ((([112, 100, 103, 113] ++ beB gen 4) ++ beB n 4) ++ beB (crcN b) 4 = headCore gen b) := Lib.hid (by unfold headCore; rw [HN.out])
  rw [HCO.out] at hq
  have H5 := Lib.hid hq
  have HCL := Lib.hid (headCore_len gen b)
  have HHB : Hid (headB gen b = (headCore gen b ++ beB (crcN (headCore gen b)) 4) ++ List.replicate 44 0) := Lib.hid rfl
  generalize headCore gen b = hc at H5 HCL HHB
  clear hp hq H4 HCO
  go_wp2_with fail
  refine (bytes_any _ w.heap.size _ _ _ H5.out.wr (by rw [HCL.out]; omega)).mono ?_
  rintro en w6 ⟨A6, c6, rfl, hown, hb⟩
  have hr6 := Reads.of_own hown
  have H6 := Lib.hid (H5.out.below hb)
  rw [HCL.out] at hr6 ⊢
  have HR6 := Lib.hid hr6
  clear hr6 hown hb H5
  go_wp2_with fail
  refine (crc_any _ _ _ hc HR6.out).mono ?_
  rintro en w7 ⟨rfl, rfl⟩
  go_wp2_with fail
  refine (u32_any _ w.heap.size _ _ _ H6.out.wr H6.out.bel.size _ (crcN hc) rfl (crcN_lt hc) (by rw [HCL.out]; omega)).mono ?_
  intro en w7 hp
  obtain ⟨rfl, u7, hq⟩ := H6.out.put hp
  have H7 := Lib.hid hq
  have HTL : Hid ((hc ++ beB (crcN hc) 4).length = 20) := Lib.hid (by rw [List.length_append, HCL.out, length_beB])
  generalize hc ++ beB (crcN hc) 4 = hd at H7 HTL HHB
  clear hp hq H6 HR6
  go_wp2_with fail
  refine (bytes_any _ w.heap.size _ _ _ H7.out.wr (by rw [HTL.out]; omega)).mono ?_
  rintro en w8 ⟨A8, c8, rfl, hown, hb⟩
  rw [HTL.out] at hown ⊢
  have HO8 := Lib.hid (own_lower hown H7.out.bel.size)
  have H8 := Lib.hid (H7.out.below hb)
  clear hown hb H7
  go_wp2_with fail
  refine (bytes_any _ w.heap.size _ _ _ H8.out.wr (by rw [HTL.out]; omega)).mono ?_
  rintro en w9 ⟨A9, c9, rfl, hown, hb⟩
  rw [HTL.out]
  have HO9 := Lib.hid (own_off HO8.out (Off.of_below hb (S := fun i => w8.heap.size ≤ i) (fun i hi => .inl hi)) (fun k hk => by have := (HO8.out.lt k hk).2; omega))
  have H9 := Lib.hid (H8.out.below hb)
  clear hown hb H8 HO8
  go_wp2_with (at_builtin; refine wpList_zeros elem_byte Try.underlying3 rfl _ rfl (.tmp 30) (.tmp 34) rfl w.heap.size 20 _ (bytesV hd) rfl HO9.out .i64 44 rfl (by unfold maxLen; omega) (by omega) H9.out.bel.size ?_; intro A10 c10 w10 hown10 hg10 hf10; simp only [Nat.reduceAdd] at hown10 hg10 ⊢)
  go_ret
  refine ⟨A10, c10, ?_, ?_, H9.out.bel.grown hg10 H9.out.bel.size (fun k hk => (HO9.out.lt k hk).1)⟩
  · rw [headB_len]
    rfl
  · rw [headB_len, HHB.out, ← bytesV_append]
    exact hown10
end Go.Proofs.Ytjddplddpdcmdaa
