/- Contracts of pedagoguelaw6.same and like. -/
import Derived.Test.YtjddplddpdcmdaaJrROpen
import Derived.Test.YtjddplddpdcmdaaJrAwake
import Derived.Test.YtjddplddpdcmdaaOpen6
import Derived.BigQuiet
import Derived.Deep.QuietTactic
namespace Go.Proofs.Ytjddplddpdcmdaa
open Go.RowKit
set_option linter.unusedVariables false
set_option linter.unusedSimpArgs false

theorem puts_ops9 (b : List UInt8) (f : Nat) : ∀ (r k : Nat) (s : Dk), (putsJ b f r k s).1.ops ≤ s.ops + r
  | 0, k, s => by show s.ops ≤ _; omega
  | r + 1, k, s => by
    unfold putsJ
    have h1 := write_ops s ((f + 1 + k : Nat) : Int) (chunkJ b k)
    split
    · omega
    · have h2 := puts_ops9 b f r (k + 1) (s.write ((f + 1 + k : Nat) : Int) (chunkJ b k)).1
      omega
theorem then_ops9 {r : Dk × Int} {f : Dk → Dk × Int} (hf : ∀ s, (f s).1.ops ≤ s.ops + 1) : (thenJ r f).1.ops ≤ r.1.ops + 1 := by
  unfold thenJ
  split
  · omega
  · exact hf _
theorem commitJ_ops (j : Jr) (s : Dk) (b : List UInt8) : (commitJ j s b).2.1.ops ≤ s.ops + secsN b.length + 3 := by
  have hw : ∀ half slot gen, (writeJ s half slot gen b).1.ops ≤ s.ops + secsN b.length + 3 := fun half slot gen => by
    unfold writeJ
    have h1 := puts_ops9 b (slot * half) (secsN b.length) 0 s
    have h2 := then_ops9 (r := putsJ b (slot * half) (secsN b.length) 0 s) (f := Dk.flush) flush_ops
    have h3 := then_ops9 (r := thenJ (putsJ b (slot * half) (secsN b.length) 0 s) Dk.flush) (f := fun s => s.write ((slot * half : Nat) : Int) (headB gen b)) (fun s => write_ops _ _ _)
    have h4 := then_ops9 (r := thenJ (thenJ (putsJ b (slot * half) (secsN b.length) 0 s) Dk.flush) (fun s => s.write ((slot * half : Nat) : Int) (headB gen b))) (f := Dk.flush) flush_ops
    omega
  unfold commitJ
  split
  · show s.ops ≤ _; omega
  · split
    · show s.ops ≤ _; omega
    · simp only
      split <;> exact hw _ _ _
theorem openJ_ops (s : Dk) : (openJ s).1.ops ≤ s.ops + 1 := by
  unfold openJ
  split
  · show s.ops ≤ _; omega
  · split
    · show s.ops ≤ _; omega
    · exact flush_ops s
/-- a journal that holds nothing begins with the second slot -/
def Jr.G0 (j : Jr) : Prop := j.gen = 0 → j.slot = 1
theorem stepJ_g0 {j : Jr} (h : j.G0) (σ : Nat) (r : List UInt8 × Nat) : (stepJ j σ r).G0 := by
  unfold stepJ
  split
  · intro h2
    simp only at h2
    omega
  · exact h
theorem openJ_g0 (s : Dk) : (openJ s).2.2.G0 := by
  have h : (foundJ s).G0 := stepJ_g0 (stepJ_g0 (fun _ => rfl) _ _) _ _
  unfold openJ
  split
  · exact h
  · split
    · exact h
    · exact h
theorem commitJ_g0 {j : Jr} (h : j.G0) (s : Dk) (b : List UInt8) : (commitJ j s b).1.G0 := by
  unfold commitJ
  split
  · exact h
  · split
    · exact h
    · simp only
      split
      · exact h
      · intro h2
        simp only at h2
        omega
section
variable {w0 w W W' : World} {ds ds' : List (Nat × Dk)} {bs bs' : List (Nat × TypeId × List Value)} {rs rs' rs0 : List (Nat × Value × List Value)} {d p q g k n sz : Nat} {s s' : Dk} {r r' : Rk} {j j' jr : Jr} {v u : Value} {t : TypeId} {cs xs : List Value}
theorem RM.permB (h : RM w0 W ds p r bs rs0) (hp : bs.Perm bs') : RM w0 W ds p r bs' rs0 := by
  obtain ⟨sv, wv, rs, h1, h2, h3⟩ := h
  exact ⟨sv, wv, rs, h1, h2.permB (hp.cons _), h3⟩
/-- both journals: the program's at q, the reference's at k -/
def BJ (w0 W : World) (d p q k : Nat) (s : Dk) (r : Rk) (j jr : Jr) (bs : List (Nat × TypeId × List Value)) (rs : List (Nat × Value × List Value)) : Prop :=
  ∃ lv bv, RM w0 W [(d, s)] p r ((q, 66, jcells d lv j) :: (k, 81, rjcells p bv jr) :: bs) rs ∧ (1, lv, bytesV j.last) ∈ rs ∧ (1, bv, bytesV (lastJ jr)) ∈ rs ∧ j.Ok s.now.length
theorem BJ.below (h : BJ w0 W d p q k s r j jr bs rs) (hb : Below W.heap.size W W') : BJ w0 W' d p q k s r j jr bs rs := by
  obtain ⟨lv, bv, h1, h2, h3, h4⟩ := h
  exact ⟨lv, bv, h1.below hb, h2, h3, h4⟩
theorem BJ.rm (h : BJ w0 W d p q k s r j jr bs rs) : ∃ bs', RM w0 W [(d, s)] p r bs' rs ∧ ∃ x y, bs' = x :: y :: bs := by
  obtain ⟨lv, bv, h1, h2, h3, h4⟩ := h
  exact ⟨_, h1, _, _, rfl⟩
theorem BJ.bel (h : BJ w0 W d p q k s r j jr bs rs) : Below w0.heap.size w0 W := by
  obtain ⟨lv, bv, h1, h2, h3, h4⟩ := h
  exact h1.bel
theorem BJ.km (h : BJ w0 W d p q k s r j jr bs rs) : ∃ lv, KM w0 W [(d, s)] p r k jr ((q, 66, jcells d lv j) :: bs) rs ∧ (1, lv, bytesV j.last) ∈ rs ∧ j.Ok s.now.length := by
  obtain ⟨lv, bv, h1, h2, h3, h4⟩ := h
  exact ⟨lv, ⟨bv, h1.permB (.swap _ _ _), h3⟩, h2, h4⟩
theorem BJ.of_km {lv : Value} (h : KM w0 W [(d, s)] p r k jr ((q, 66, jcells d lv j) :: bs) rs) (hl : (1, lv, bytesV j.last) ∈ rs) (hj : j.Ok s.now.length) : BJ w0 W d p q k s r j jr bs rs := by
  obtain ⟨bv, h1, h2⟩ := h
  exact ⟨lv, bv, h1.permB (.swap _ _ _), hl, h2, hj⟩
theorem BJ.jd (h : BJ w0 W d p q k s r j jr bs rs) : ∃ sv wv bv rs', SubR rs rs' ∧ RDk rs' sv wv r ∧ JD w0 W [] d s q j ((p, 79, rcells sv wv r) :: (k, 81, rjcells p bv jr) :: bs) rs' ∧ (1, bv, bytesV (lastJ jr)) ∈ rs := by
  obtain ⟨lv, bv, ⟨sv, wv, rs', h1, h2, h3⟩, h4, h5, h6⟩ := h
  exact ⟨sv, wv, bv, rs', h1, h3, ⟨lv, h2.permB (.swap _ _ _), h1 _ h4, h6⟩, h5⟩
theorem BJ.of_jd {sv wv bv : Value} (h : JD w0 W [] d s q j ((p, 79, rcells sv wv r) :: (k, 81, rjcells p bv jr) :: bs) rs') (hs : SubR rs rs') (hr : RDk rs' sv wv r) (hb : (1, bv, bytesV (lastJ jr)) ∈ rs) : ∃ rs2, SubR rs rs2 ∧ BJ w0 W d p q k s r j jr bs rs2 := by
  obtain ⟨lv, h1, h2, h3⟩ := h
  refine ⟨(1, lv, bytesV j.last) :: rs, SubR.cons _ _, lv, bv, ⟨sv, wv, rs', fun x hx => ?_, h1.permB (.swap _ _ _), hr⟩, .head _, .tail _ hb, h3⟩
  rcases List.mem_cons.1 hx with rfl | hx
  · exact h2
  · exact hs x hx
theorem bj_commit (h : BJ w0 W d p q k s r j jr bs rs) (ho : s.ops < 900000000) (v : Value) (b : List UInt8) (ha : ArgM w0 bs rs v b) (hbm : b.length ≤ 140737488355328) :
    Calls Try.prog 15 #[.pointer (some ⟨q, 0, none⟩), v] W fun en W' => en = .returned (.int .i64 (commitJ j s b).2.2) ∧ ∃ rs', SubR rs rs' ∧ BJ w0 W' d p q k (commitJ j s b).2.1 r (commitJ j s b).1 jr bs rs' := by
  obtain ⟨sv, wv, bv, rs1, h1, h2, h3, h4⟩ := h.jd
  refine (jcommit_any h3 ho v b (ha.mono (fun y hy => .tail _ (.tail _ hy)) h1) hbm).mono ?_
  rintro en W2 ⟨rfl, rs2, hs, hj⟩
  exact ⟨rfl, BJ.of_jd hj (h1.trans hs) (h2.mono hs) h4⟩
theorem bk_commit {s1 : Dk} {j1 : Jr} (h : BJ w0 W d p q k s1 r j1 j bs rs) (ha : Alike s r) (hj : j.Ok s.now.length) (hs0 : j.G0) (ho : s.ops < 900000000) (v : Value) (b : List UInt8) (hb : ArgM w0 bs rs v b) :
    Calls Try.prog 25 #[.pointer (some ⟨k, 0, none⟩), v] W fun en W' => en = .returned (.int .i64 (commitJ j s b).2.2) ∧ ∃ r', Alike (commitJ j s b).2.1 r' ∧ ∃ rs', SubR rs rs' ∧ BJ w0 W' d p q k s1 r' j1 (commitJ j s b).1 bs rs' := by
  obtain ⟨lv, h1, h2, h3⟩ := h.km
  refine (kcommit_any h1 ha hj hs0 ho v b (hb.mono (fun y hy => .tail _ hy) (fun y hy => hy))).mono ?_
  rintro en W2 ⟨rfl, r', hal, rs2, hs, hk⟩
  exact ⟨rfl, r', hal, rs2, hs, BJ.of_km hk (hs _ h2) h3⟩
theorem rm_open (h : RM w0 W [(d, s)] p r bs rs) (ho : s.ops < 1000000000) : Calls Try.prog 11 #[.pointer (some ⟨d, 0, none⟩)] W fun en W' =>
    ((openJ s).2.1 ≠ 0 ∧ en = .returned (.tuple #[.pointer none, .int .i64 (openJ s).2.1]) ∧ RM w0 W' [(d, (openJ s).1)] p r bs rs) ∨
    ((openJ s).2.1 = 0 ∧ ∃ q, en = .returned (.tuple #[.pointer (some ⟨q, 0, none⟩), .int .i64 0]) ∧ ∃ lv rs', SubR rs rs' ∧ RM w0 W' [(d, (openJ s).1)] p r ((q, 66, jcells d lv (openJ s).2.2) :: bs) rs' ∧ (1, lv, bytesV (openJ s).2.2.last) ∈ rs' ∧ (openJ s).2.2.Ok (openJ s).1.now.length) := by
  obtain ⟨sv, wv, rs1, h1, h2, h3⟩ := h
  refine (jopen_any h2 ho).mono ?_
  rintro en W2 (⟨he, rfl, hd⟩ | ⟨he, q, rs2, rfl, hs, lv, h5, h6, h7⟩)
  · exact .inl ⟨he, rfl, sv, wv, rs1, h1, hd, h3⟩
  · refine .inr ⟨he, q, rfl, lv, (1, lv, bytesV (openJ s).2.2.last) :: rs, SubR.cons _ _, ⟨sv, wv, rs2, fun x hx => ?_, h5.permB (.swap _ _ _), h3.mono hs⟩, .head _, h7⟩
    rcases List.mem_cons.1 hx with rfl | hx
    · exact h6
    · exact hs x (h1 x hx)
/-- both opened: both journals, or none -/
theorem rm_kopen {s1 : Dk} (h : RM w0 W [(d, s1)] p r bs rs) (ha : Alike s r) (ho : s.ops < 900000000) : Calls Try.prog 24 #[.pointer (some ⟨p, 0, none⟩)] W fun en W' =>
    ((openJ s).2.1 ≠ 0 ∧ en = .returned (.tuple #[.pointer none, .int .i64 (openJ s).2.1]) ∧ ∃ r', Alike (openJ s).1 r' ∧ RM w0 W' [(d, s1)] p r' bs rs) ∨
    ((openJ s).2.1 = 0 ∧ ∃ k, en = .returned (.tuple #[.pointer (some ⟨k, 0, none⟩), .int .i64 0]) ∧ ∃ r', Alike (openJ s).1 r' ∧ ∃ rs', SubR rs rs' ∧ KM w0 W' [(d, s1)] p r' k (openJ s).2.2 bs rs') :=
  kopen_any h ha ho
theorem BJ.drop2 {a b : Nat × TypeId × List Value} (h : BJ w0 W d p q k s r j jr (a :: b :: bs) rs) : BJ w0 W d p q k s r j jr bs rs := by
  obtain ⟨lv, bv, h1, h2, h3, h4⟩ := h
  refine ⟨lv, bv, ?_, h2, h3, h4⟩
  have h5 := h1.permB (show List.Perm _ (a :: b :: (q, 66, jcells d lv j) :: (k, 81, rjcells p bv jr) :: bs) from (List.perm_append_comm_assoc [(q, 66, jcells d lv j), (k, 81, rjcells p bv jr)] [a, b] bs))
  exact h5.dropB.dropB
theorem BJ.drop1 {a : Nat × TypeId × List Value} (h : BJ w0 W d p q k s r j jr (a :: bs) rs) : BJ w0 W d p q k s r j jr bs rs := by
  obtain ⟨lv, bv, h1, h2, h3, h4⟩ := h
  refine ⟨lv, bv, ?_, h2, h3, h4⟩
  have h5 := h1.permB (show List.Perm _ (a :: (q, 66, jcells d lv j) :: (k, 81, rjcells p bv jr) :: bs) from (List.perm_append_comm_assoc [(q, 66, jcells d lv j), (k, 81, rjcells p bv jr)] [a] bs))
  exact h5.dropB
theorem BJ.more (h : BJ w0 W d p q k s r j jr bs rs) (hb : Below W.heap.size W W') (hg : W.heap.size ≤ g) (hk : Blk W' g t cs) : BJ w0 W' d p q k s r j jr ((g, t, cs) :: bs) rs := by
  obtain ⟨lv, bv, h1, h2, h3, h4⟩ := h
  have h5 := h1.more hb hg hk
  exact ⟨lv, bv, h5.permB (List.perm_append_comm_assoc [(g, t, cs)] [(q, 66, jcells d lv j), (k, 81, rjcells p bv jr)] bs), h2, h3, h4⟩
theorem BJ.blk (h : BJ w0 W d p q k s r j jr ((g, t, cs) :: bs) rs) : Blk W g t cs := by
  obtain ⟨lv, bv, h1, h2, h3, h4⟩ := h
  exact h1.blk (.tail _ (.tail _ (.head _)))
/-- the disks turned, the journals as they were -/
theorem BJ.lift (h : BJ w0 W d p q k s r j jr bs rs) (hl : s'.now.length = s.now.length) (f : ∀ bs rs, RM w0 W [(d, s)] p r bs rs → RM w0 W' [(d, s')] p r' bs rs) : BJ w0 W' d p q k s' r' j jr bs rs := by
  obtain ⟨lv, bv, h1, h2, h3, h4⟩ := h
  exact ⟨lv, bv, f _ _ h1, h2, h3, by rw [hl]; exact h4⟩
end
end Go.Proofs.Ytjddplddpdcmdaa
namespace Go.Proofs.Ytjddplddpdcmdaa
open Go.RowKit
set_option linter.unusedVariables false

section
variable {w0 w W W' : World} {ds ds' : List (Nat × Dk)} {bs bs' : List (Nat × TypeId × List Value)} {rs rs' rs0 : List (Nat × Value × List Value)} {d p q g k n sz : Nat} {s s' : Dk} {r r' : Rk} {j j' jr : Jr} {v u : Value} {t : TypeId} {cs xs : List Value}
set_option maxHeartbeats 3200000 in
set_option maxRecDepth 100000 in
theorem same6_any (h : RM w0 W ((d, s) :: ds) p r bs rs0) (ha : Alike s r) : Calls Try.prog 29 #[.pointer (some ⟨d, 0, none⟩), .pointer (some ⟨p, 0, none⟩)] W fun en W' => en = .returned (.bool true) ∧ RM w0 W' ((d, s) :: ds) p r bs rs0 := by
  obtain ⟨hp, ⟨A, c, k0⟩, k2, k4⟩ := h.cells
  obtain ⟨n, hn⟩ : ∃ n, r.sure.length = n := ⟨_, rfl⟩
  obtain ⟨o, ho⟩ : ∃ o, r.n = o := ⟨_, rfl⟩
  rw [hn] at k0
  rw [ho] at k2
  have hn4 : n ≤ 4096 := by rw [← hn]; exact ha.rok.most
  have HLN : Hid (s.now.length = n) := Lib.hid (by rw [ha.len, hn])
  have HOP : Hid (s.ops = o) := Lib.hid (by rw [ha.ops, ho])
  have HH := Lib.hid h
  have HA := Lib.hid ha
  clear h ha hn ho k4
  have t1 : ((n : Int) != (n : Int)) = false := by simp
  have t2 : (o != o) = false := by simp
  go_enter Try.func29, Try.ntmps29
  go_upto_region 1 with fail
  go_quiet (first
    | (go_at_call 31; exact q_leftR (rm_len (HH.out.drewN _) n HLN.out))
    | (go_at_call 48; exact q_leftR (rm_ops (HH.out.drewN _) o HOP.out)))
  have HH2 := Lib.hid (HH.out.drewN nq)
  go_wp2
  go_loopw [32] (fun i wr => ∃ (k : Nat), k ≤ n ∧ i = .int .i64 k ∧ Hid (RM w0 wr ((d, s) :: ds) p r bs rs0)) (fun i _ => n - (intOf i).toNat)
  case atStart => exact ⟨0, by omega, rfl, HH2⟩
  case round =>
    obtain ⟨k, hk, rfl, hrm⟩ := hrel
    by_cases hlt : k < n
    · obtain ⟨⟨x, e⟩, hx⟩ : ∃ q, s.read (k : Int) = q := ⟨_, rfl⟩
      have HR1 := Lib.hid hx
      have HR2 : Hid (r.read (k : Int) = (x, e)) := Lib.hid (by rw [← HA.out.read]; exact hx)
      have i1 : (k : Int) < (n : Int) := by omega
      clear hx HH HH2 k0 k2
      go_wp2_with fail
      refine (rm_read hrm.out k e x HR1.out).mono ?_
      rintro en w6 ⟨A6, n6, c6, rfl, h⟩
      have H6 := Lib.hid h
      clear h hrm
      dsimp only
      go_wp2_with fail
      refine (rm_rread H6.out k e x HR2.out).mono ?_
      rintro en w7 ⟨A7, n7, c7, rfl, h⟩
      have H7 := Lib.hid (h.sub (rs0 := rs0) (fun z hz => .tail _ (.tail _ hz)))
      have s6 := run_strJ (h.reads1 (.tail _ (.head _)))
      have s7 := run_strJ (h.reads1 (.head _))
      have tyy : (x == x) = true := by simp
      have tyn : (x != x) = false := by simp
      have ten : (e != e) = false := by simp
      clear h H6
      dsimp only
      go_wp2
      go_roundw
      case rel => exact ⟨k + 1, by omega, by go_num, H7⟩
      case measure => simp [intOf]; omega
    · go_wp2
      go_ret
      exact ⟨rfl, hrm.out⟩
/-- what the journals tell -/
theorem bj_last (h : BJ w0 W d p q k s r j jr bs rs) : Calls Try.prog 16 #[.pointer (some ⟨q, 0, none⟩)] W fun en W' => ∃ A n c, en = .returned (.tuple #[.slice A n c, .bool (decide (j.gen ≠ 0))]) ∧ BJ w0 W' d p q k s r j jr bs rs ∧ Reads W' W'.heap.size (.slice A n c) (bytesV (lastJ j)) := by
  obtain ⟨sv, wv, bv, rs1, h1, h2, h3, h4⟩ := h.jd
  refine (jlast_any h3).mono ?_
  rintro en W2 ⟨A, n, c, rfl, hb, hr⟩
  exact ⟨A, n, c, rfl, h.below hb, hr.reads⟩
theorem bj_gen (h : BJ w0 W d p q k s r j jr bs rs) (n : Nat) (hn : j.gen = n) : Calls Try.prog 12 #[.pointer (some ⟨q, 0, none⟩)] W fun en W' => en = .returned (.int .u32 (n : Int)) ∧ W = W' := by
  obtain ⟨sv, wv, bv, rs1, h1, h2, h3, h4⟩ := h.jd
  rw [← hn]
  exact jgen_any h3
theorem bj_room (h : BJ w0 W d p q k s r j jr bs rs) (n : Nat) (hn : roomJ j = n) : Calls Try.prog 13 #[.pointer (some ⟨q, 0, none⟩)] W fun en W' => en = .returned (.int .i64 (n : Int)) ∧ W = W' := by
  obtain ⟨sv, wv, bv, rs1, h1, h2, h3, h4⟩ := h.jd
  rw [← hn]
  exact jroom_any h3
theorem bk_room (h : BJ w0 W d p q k s r j jr bs rs) (ha : Alike s r) (n : Nat) (hn : roomJ j = n) : Calls Try.prog 44 #[.pointer (some ⟨k, 0, none⟩)] W fun en W' => en = .returned (.int .i64 (n : Int)) ∧ W = W' := by
  obtain ⟨lv, h1, h2, h3⟩ := h.km
  exact kroom_any h1 n (by rw [← ha.len]; exact h3.four) (by rw [← hn, ← ha.len]; unfold roomJ; rw [h3.half])
theorem BJ.drew (h : BJ w0 W d p q k s r j jr bs rs) : BJ w0 W.drew d p q k s r j jr bs rs := h.below ⟨rfl, rfl, rfl, Nat.le_refl _, fun _ _ => rfl⟩
theorem BJ.drewN (h : BJ w0 W d p q k s r j jr bs rs) (n : Nat) : BJ w0 (W.drewN n) d p q k s r j jr bs rs := h.below ⟨rfl, rfl, rfl, Nat.le_refl _, fun _ _ => rfl⟩
set_option maxHeartbeats 3200000 in
set_option maxRecDepth 100000 in
theorem like6_any (h : BJ w0 W d p q k s r j j bs rs) (ha : Alike s r) : Calls Try.prog 30 #[.pointer (some ⟨q, 0, none⟩), .pointer (some ⟨k, 0, none⟩)] W fun en W' => en = .returned (.bool true) ∧ BJ w0 W' d p q k s r j j bs rs := by
  have HH := Lib.hid h
  have HA := Lib.hid ha
  obtain ⟨gn, hgn⟩ : ∃ x, j.gen = x := ⟨_, rfl⟩
  obtain ⟨rm, hrm⟩ : ∃ x, roomJ j = x := ⟨_, rfl⟩
  obtain ⟨hh, hhh⟩ : ∃ x, decide (j.gen ≠ 0) = x := ⟨_, rfl⟩
  obtain ⟨ls, hls⟩ : ∃ x, lastJ j = x := ⟨_, rfl⟩
  have HGN := Lib.hid hgn
  have HRM := Lib.hid hrm
  have HHH := Lib.hid hhh
  have HLS := Lib.hid hls
  clear h ha hgn hrm hhh hls
  go_enter Try.func30, Try.ntmps30
  go_wp2_with fail
  refine (bj_last HH.out).mono ?_
  rw [HHH.out, HLS.out]
  rintro en w1 ⟨A1, n1, c1, rfl, h, hr⟩
  have H1 := Lib.hid h
  have s1 : ∀ N, (convert 31 9 (.slice A1 n1 c1)).run Try.prog (w1.drewN N) = .ok (.string ⟨ls.toArray⟩) (w1.drewN N) := fun N => run_strJ (hr.drewN N)
  have h9 : ∃ lv, KM w0 w1 [(d, s)] p r k j ((q, 66, jcells d lv j) :: bs) rs ∧ (1, lv, bytesV j.last) ∈ rs ∧ j.Ok s.now.length := h.km
  obtain ⟨lv, hkm, _, _⟩ := h9
  obtain ⟨A9, c9, A8, c8, hk9, _, _, m1, _, m3, m4, _, _⟩ := hkm.cells
  obtain ⟨bv, hr1, hr2⟩ := hkm
  have m4' := (hr1.blk (.head _)).cell 4
  simp only [rjcells, List.getElem?_cons_zero, List.getElem?_cons_succ] at m4'
  rw [m4'] at m4
  injection m4 with m4
  subst m4
  have s2 : ∀ N, (convert 31 9 (.slice A9 (lastJ j).length c9)).run Try.prog (w1.drewN N) = .ok (.string ⟨(lastJ j).toArray⟩) (w1.drewN N) := fun N => run_strJ ((hr1.reads1 hr2).drewN N)
  have m4 := m4'
  clear m4' hr1 hr2 h hr HH
  rw [HLS.out] at s2 m4
  rw [show hasR j = hh from HHH.out] at m1
  rw [HGN.out] at m3
  have tb : (hh == hh) = true := by simp
  have ts : (ls == ls) = true := by simp
  have tg : ((gn : Int) == (gn : Int)) = true := by simp
  have tr : ((rm : Int) == (rm : Int)) = true := by simp
  go_upto_region 2 with fail
  go_quiet (first
    | (go_at_call 12; exact q_leftR (bj_gen (H1.out.drewN _) gn HGN.out))
    | (go_at_call 13; exact q_leftR (bj_room (H1.out.drewN _) rm HRM.out))
    | (go_at_call 44; exact q_leftR (bk_room (H1.out.drewN _) HA.out rm HRM.out)))
  have H2 := Lib.hid (H1.out.drewN nq)
  go_wp2
  go_ret
  exact ⟨rfl, H2.out⟩
theorem bj_same (h : BJ w0 W d p q k s r j jr bs rs) (ha : Alike s r) : Calls Try.prog 29 #[.pointer (some ⟨d, 0, none⟩), .pointer (some ⟨p, 0, none⟩)] W fun en W' => en = .returned (.bool true) ∧ BJ w0 W' d p q k s r j jr bs rs := by
  obtain ⟨lv, bv, h1, h2, h3, h4⟩ := h
  exact (same6_any h1 ha).mono fun en W' ⟨he, h⟩ => ⟨he, lv, bv, h, h2, h3, h4⟩
theorem bj_fuse (h : BJ w0 W d p q k s r j jr bs rs) (ho : s.ops < 1000000000) (n : Int) (hn : -9223372036854775808 ≤ n ∧ n ≤ 9223372036854775807) :
    Calls Try.prog 21 #[.pointer (some ⟨d, 0, none⟩), .int .i64 n] W fun en W' => en = .returned (.tuple #[]) ∧ BJ w0 W' d p q k (s.fused n) r j jr bs rs := by
  obtain ⟨lv, bv, h1, h2, h3, h4⟩ := h
  exact (rm_fuse h1 ho n hn).mono fun en W' ⟨he, h⟩ => ⟨he, lv, bv, h, h2, h3, h4⟩
theorem bk_fuse (h : BJ w0 W d p q k s r j jr bs rs) (n : Int) (hn : n ≤ 9223372036854775807) :
    Calls Try.prog 26 #[.pointer (some ⟨p, 0, none⟩), .int .i64 n] W fun en W' => en = .returned (.tuple #[]) ∧ BJ w0 W' d p q k s (r.fused n) j jr bs rs := by
  obtain ⟨lv, bv, h1, h2, h3, h4⟩ := h
  exact (rfuse_any h1 n hn).mono fun en W' ⟨he, h⟩ => ⟨he, lv, bv, h, h2, h3, h4⟩
theorem bj_crash (h : BJ w0 W d p q k s r j jr bs rs) (hok : s.Ok) (v : Value) (x : List UInt8) (ha : ArgM w0 bs rs v x) :
    Calls Try.prog 22 #[.pointer (some ⟨d, 0, none⟩), v] W fun en W' => en = .returned (.tuple #[]) ∧ BJ w0 W' d p q k (s.crash x) r j jr bs rs := by
  obtain ⟨lv, bv, h1, h2, h3, h4⟩ := h
  exact (rm_crash h1 v x (ha.mono (fun y hy => .tail _ (.tail _ hy)) (fun y hy => hy))).mono fun en W' ⟨he, h⟩ => ⟨he, lv, bv, h, h2, h3, by rw [Dk.crash_len hok]; exact h4⟩
theorem bk_crash (h : BJ w0 W d p q k s r j jr bs rs) (v : Value) (x : List UInt8) (ha : ArgM w0 bs rs v x) :
    Calls Try.prog 27 #[.pointer (some ⟨p, 0, none⟩), v] W fun en W' => en = .returned (.tuple #[]) ∧ BJ w0 W' d p q k s (r.crash x) j jr bs rs := by
  obtain ⟨lv, bv, h1, h2, h3, h4⟩ := h
  exact (rcrash_any h1 v x (ha.mono (fun y hy => .tail _ (.tail _ hy)) (fun y hy => hy))).mono fun en W' ⟨he, h⟩ => ⟨he, lv, bv, h, h2, h3, h4⟩
theorem bj_write (h : BJ w0 W d p q k s r j jr bs rs) (ho : s.ops < 1000000000) (i : Int) (v : Value) (x : List UInt8) (ha : ArgM w0 bs rs v x) :
    Calls Try.prog 18 #[.pointer (some ⟨d, 0, none⟩), .int .i64 i, v] W fun en W' => en = .returned (.int .i64 (s.write i x).2) ∧ BJ w0 W' d p q k (s.write i x).1 r j jr bs rs := by
  obtain ⟨lv, bv, h1, h2, h3, h4⟩ := h
  exact (rm_write h1 ho i v x (ha.mono (fun y hy => .tail _ (.tail _ hy)) (fun y hy => hy))).mono fun en W' ⟨he, h⟩ => ⟨he, lv, bv, h, h2, h3, by rw [Dk.write_len]; exact h4⟩
theorem bk_write (h : BJ w0 W d p q k s r j jr bs rs) (hn : r.n < 1000000000) (i : Int) (v : Value) (x : List UInt8) (ha : ArgM w0 bs rs v x) :
    Calls Try.prog 28 #[.pointer (some ⟨p, 0, none⟩), .int .i64 i, v] W fun en W' => en = .returned (.int .i64 (r.write i x).2) ∧ BJ w0 W' d p q k s (r.write i x).1 j jr bs rs := by
  obtain ⟨lv, bv, h1, h2, h3, h4⟩ := h
  exact (rwrite_any h1 hn i v x (ha.mono (fun y hy => .tail _ (.tail _ hy)) (fun y hy => hy))).mono fun en W' ⟨he, h⟩ => ⟨he, lv, bv, h, h2, h3, h4⟩
theorem BJ.turn {cs' : List Value} (h : BJ w0 W d p q k s r j jr ((g, t, cs) :: bs) rs) (ho : Off (fun i => i = g) W W') (hk : Blk W' g t cs') : BJ w0 W' d p q k s r j jr ((g, t, cs') :: bs) rs := by
  obtain ⟨lv, bv, h1, h2, h3, h4⟩ := h
  have h5 := h1.permB (show List.Perm _ ((g, t, cs) :: (q, 66, jcells d lv j) :: (k, 81, rjcells p bv jr) :: bs) from (List.perm_append_comm_assoc [(q, 66, jcells d lv j), (k, 81, rjcells p bv jr)] [(g, t, cs)] bs))
  exact ⟨lv, bv, (h5.turn ho hk).permB (List.perm_append_comm_assoc [(g, t, cs')] [(q, 66, jcells d lv j), (k, 81, rjcells p bv jr)] bs), h2, h3, h4⟩
theorem openJ_len (s : Dk) : (openJ s).1.now.length = s.now.length := by
  unfold openJ
  split
  · rfl
  · split
    · rfl
    · exact Dk.flush_len s
/-- the program's journal is opened anew, the reference's not yet -/
def BO (w0 W : World) (d p q : Nat) (s : Dk) (r : Rk) (j : Jr) (bs : List (Nat × TypeId × List Value)) : Prop :=
  ∃ lv X Y rs, RM w0 W [(d, s)] p r ((q, 66, jcells d lv j) :: X :: Y :: bs) rs ∧ (1, lv, bytesV j.last) ∈ rs ∧ j.Ok s.now.length
theorem bj_open (h : BJ w0 W d p q k s r j jr bs rs) (ho : s.ops < 1000000000) (s2 : Dk) (e : Int) (j2 : Jr) (hr : openJ s = (s2, e, j2)) : Calls Try.prog 11 #[.pointer (some ⟨d, 0, none⟩)] W fun en W' =>
    (e ≠ 0 ∧ en = .returned (.tuple #[.pointer none, .int .i64 e]) ∧ BJ w0 W' d p q k s2 r j jr bs rs) ∨
    (e = 0 ∧ ∃ q2, en = .returned (.tuple #[.pointer (some ⟨q2, 0, none⟩), .int .i64 0]) ∧ BO w0 W' d p q2 s2 r j2 bs) := by
  have hl := openJ_len s
  obtain ⟨lv, bv, h1, h2, h3, h4⟩ := h
  refine (rm_open h1 ho).mono ?_
  rw [hr] at hl ⊢
  simp only at hl ⊢
  rintro en W2 (⟨he, rfl, h5⟩ | ⟨he, q2, rfl, lv2, rs2, hs, h5, h6, h7⟩)
  · exact .inl ⟨he, rfl, lv, bv, h5, h2, h3, by rw [hl]; exact h4⟩
  · exact .inr ⟨he, q2, rfl, lv2, _, _, rs2, h5, h6, h7⟩
theorem bk_open {s1 : Dk} (h : BJ w0 W d p q k s1 r j jr bs rs) (ha : Alike s r) (ho : s.ops < 900000000) (s2 : Dk) (e : Int) (j2 : Jr) (hr : openJ s = (s2, e, j2)) (he : e ≠ 0) : Calls Try.prog 24 #[.pointer (some ⟨p, 0, none⟩)] W fun en W' =>
    en = .returned (.tuple #[.pointer none, .int .i64 e]) ∧ ∃ r', Alike s2 r' ∧ BJ w0 W' d p q k s1 r' j jr bs rs := by
  obtain ⟨lv, bv, h1, h2, h3, h4⟩ := h
  refine (kopen_any h1 ha ho).mono ?_
  rw [hr]
  simp only
  rintro en W2 (⟨_, rfl, r', hal, h5⟩ | ⟨h5, _⟩)
  · exact ⟨rfl, r', hal, lv, bv, h5, h2, h3, h4⟩
  · exact absurd h5 he
theorem bo_open {s1 : Dk} {j2 : Jr} (h : BO w0 W d p q s1 r j2 bs) (ha : Alike s r) (ho : s.ops < 900000000) (s2 : Dk) (hr : openJ s = (s2, 0, j2)) : Calls Try.prog 24 #[.pointer (some ⟨p, 0, none⟩)] W fun en W' =>
    ∃ k2, en = .returned (.tuple #[.pointer (some ⟨k2, 0, none⟩), .int .i64 0]) ∧ ∃ r', Alike s2 r' ∧ ∃ rs2, BJ w0 W' d p q k2 s1 r' j2 j2 bs rs2 := by
  obtain ⟨lv, X, Y, rs, h1, h2, h3⟩ := h
  refine (kopen_any h1 ha ho).mono ?_
  rw [hr]
  simp only
  rintro en W2 (⟨h5, _⟩ | ⟨_, k2, rfl, r', hal, rs2, hs, hk⟩)
  · exact absurd rfl h5
  · exact ⟨k2, rfl, r', hal, rs2, (BJ.of_km hk (hs _ h2) h3).drop2⟩
theorem BO.of (h : RM w0 W [(d, s)] p r ((q, 66, jcells d v j) :: bs) rs) (hl : (1, v, bytesV j.last) ∈ rs) (hj : j.Ok s.now.length) : ∃ lv rs, RM w0 W [(d, s)] p r ((q, 66, jcells d lv j) :: bs) rs ∧ (1, lv, bytesV j.last) ∈ rs ∧ j.Ok s.now.length := ⟨v, rs, h, hl, hj⟩
end
end Go.Proofs.Ytjddplddpdcmdaa
