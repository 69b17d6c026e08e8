/- A byte of a head changed: it is no head. Plain. -/
import Derived.Test.YtjddplddpdcmdaaWalkJrCounts
namespace Go.Proofs.Ytjddplddpdcmdaa
set_option linter.unusedVariables false
set_option linter.unusedSimpArgs false

theorem poly_top {A : Nat} (h : A < 2147483648) : 2147483648 ≤ A ^^^ 3988292384 := by
  refine Nat.le_of_not_lt fun hl => ?_
  have h1 : A ^^^ (A ^^^ 3988292384) < 2147483648 := Nat.xor_lt_two_pow (n := 31) h hl
  rw [← Nat.xor_assoc, Nat.xor_self, Nat.zero_xor] at h1
  omega
theorem xor_cancelL {a b c : Nat} (h : a ^^^ b = a ^^^ c) : b = c := by
  have := congrArg (a ^^^ ·) h
  simpa [← Nat.xor_assoc] using this
theorem xor_cancelR {a b c : Nat} (h : b ^^^ a = c ^^^ a) : b = c := by
  rw [Nat.xor_comm b, Nat.xor_comm c] at h
  exact xor_cancelL h
theorem crcBit_inj {s t : Nat} (hs : s < 4294967296) (ht : t < 4294967296) (h : crcBit s = crcBit t) : s = t := by
  unfold crcBit at h
  have h1 := poly_top (A := s / 2) (by omega)
  have h2 := poly_top (A := t / 2) (by omega)
  split at h <;> split at h
  · have := xor_cancelR h
    omega
  · omega
  · omega
  · omega
theorem crcBits_inj (m : Nat) {s t : Nat} (hs : s < 4294967296) (ht : t < 4294967296) (h : crcBits m s = crcBits m t) : s = t := by
  induction m with
  | zero => exact h
  | succ m ih => exact ih (crcBit_inj (crcBits_lt m hs) (crcBits_lt m ht) h)
theorem crcByte_injS {s t : Nat} (hs : s < 4294967296) (ht : t < 4294967296) (c : UInt8) (h : crcByte s c = crcByte t c) : s = t :=
  xor_cancelR (crcBits_inj 8 (crcXor_lt hs c) (crcXor_lt ht c) h)
theorem crcByte_injC {s : Nat} (hs : s < 4294967296) {c d : UInt8} (h : crcByte s c = crcByte s d) : c = d :=
  UInt8.toNat_inj.1 (xor_cancelL (crcBits_inj 8 (crcXor_lt hs c) (crcXor_lt hs d) h))
theorem crcFold_inj (bs : List UInt8) : ∀ {s t : Nat}, s < 4294967296 → t < 4294967296 → bs.foldl crcByte s = bs.foldl crcByte t → s = t := by
  induction bs with
  | nil => intro s t _ _ h; exact h
  | cons c r ih => intro s t hs ht h; exact crcByte_injS hs ht c (ih (crcByte_lt hs c) (crcByte_lt ht c) h)
theorem crc_one {l r : List UInt8} {c d : UInt8} (h : crcN (l ++ c :: r) = crcN (l ++ d :: r)) : c = d := by
  have h1 := xor_cancelR h
  unfold crcRun at h1
  rw [List.foldl_append, List.foldl_append, List.foldl_cons, List.foldl_cons] at h1
  have hl := crcFold_lt l (s := 4294967295) (by decide)
  exact crcByte_injC hl (crcFold_inj r (crcByte_lt hl c) (crcByte_lt hl d) h1)
theorem headB_core (gen : Nat) (b : List UInt8) : (headB gen b).take 16 = headCore gen b := by
  unfold headB
  rw [List.append_assoc, List.take_left' (headCore_len gen b)]
theorem headB_crc (gen : Nat) (b : List UInt8) : ((headB gen b).drop 16).take 4 = beB (crcN (headCore gen b)) 4 := by
  unfold headB
  rw [List.append_assoc, List.drop_left' (headCore_len gen b), List.take_left' (length_beB _ _)]
theorem head_spoilt {gen : Nat} {b : List UInt8} {p : Nat} (hp : p < 64) {y : UInt8} (hy : (headB gen b)[p]? ≠ some y) (g : Nat) (c : List UInt8) : (headB gen b).set p y ≠ headB g c := by
  intro he
  have hl := headB_len gen b
  by_cases h16 : 16 ≤ p
  · have h1 : headCore gen b = headCore g c := by
      rw [← headB_core, ← headB_core, ← he, List.take_set_of_le h16]
    have h2 : headB gen b = headB g c := by unfold headB; rw [h1]
    rw [← h2] at he
    apply hy
    rw [← he, List.getElem?_set_self (by omega)]
  · have h1 : (headCore gen b).set p y = headCore g c := by
      rw [← headB_core, ← headB_core, ← he, List.take_set]
    have h2 : beB (crcN (headCore gen b)) 4 = beB (crcN (headCore g c)) 4 := by
      rw [← headB_crc, ← headB_crc, ← he, List.drop_set_of_lt (by omega)]
    have h3 := congrArg deB h2
    have l1 := crcN_lt (headCore gen b)
    have l2 := crcN_lt (headCore g c)
    rw [de_be, de_be, Nat.mod_eq_of_lt (by omega), Nat.mod_eq_of_lt (by omega), ← h1] at h3
    have hK := headCore_len gen b
    have e : (headB gen b)[p]? = (headCore gen b)[p]? := by
      rw [← headB_core, List.getElem?_take_of_lt (by omega)]
    rw [e] at hy
    generalize headCore gen b = K at h3 hy hK
    have h4 : K = K.take p ++ K[p]'(by omega) :: K.drop (p + 1) := by
      rw [List.getElem_cons_drop, List.take_append_drop]
    rw [List.set_eq_take_append_cons_drop, if_pos (by omega)] at h3
    rw [show crcN K = crcN (K.take p ++ K[p]'(by omega) :: K.drop (p + 1)) from congrArg crcN h4] at h3
    have h5 := crc_one h3
    apply hy
    rw [List.getElem?_eq_getElem (by omega), h5]
theorem readS_spoilt {X : List (List UInt8)} {half f : Nat} (h : ∀ g c, X.getD f [] ≠ headB g c) : readS X half f = ([], 0) := by
  unfold readS
  split
  · rfl
  · rw [if_neg (h _ _)]
theorem readS_head {X : List (List UInt8)} {half f gen : Nat} {b : List UInt8} (h : readS X half f = (b, gen)) (h0 : gen ≠ 0) : X.getD f [] = headB gen b := by
  unfold readS at h
  split at h
  · injection h with h1 h2; omega
  · split at h
    · rename_i h3
      injection h with h1 h2
      rw [h3, h1, h2]
    · injection h with h1 h2; omega
/-- sectors ahead of a slot stay -/
theorem write_keep {s : Dk} {i k : Nat} {x : List UInt8} (h : i ≠ k) : (s.write (k : Int) x).1.now.getD i [] = s.now.getD i [] := by
  unfold Dk.write
  split
  · split
    · rfl
    · show (s.now.set (k : Int).toNat x).getD i [] = _
      rw [Int.toNat_natCast, List.getD_eq_getElem?_getD, List.getElem?_set_ne (Ne.symm h), ← List.getD_eq_getElem?_getD]
  · rfl
theorem flush_keep (s : Dk) : s.flush.1.now = s.now := by
  unfold Dk.flush
  split <;> rfl
theorem puts_keep (b : List UInt8) (f i : Nat) (hi : i < f) : ∀ (r k : Nat) (s : Dk), (putsJ b f r k s).1.now.getD i [] = s.now.getD i []
  | 0, k, s => rfl
  | r + 1, k, s => by
    have h1 := write_keep (s := s) (i := i) (k := f + 1 + k) (x := chunkJ b k) (by omega)
    rw [putsJ]
    split
    · exact h1
    · rw [puts_keep b f i hi r (k + 1), h1]
theorem then_keep {r : Dk × Int} {f : Dk → Dk × Int} {i : Nat} (hf : ∀ s, (f s).1.now.getD i [] = s.now.getD i []) : (thenJ r f).1.now.getD i [] = r.1.now.getD i [] := by
  unfold thenJ
  split
  · rfl
  · exact hf _
theorem writeJ_keep (s : Dk) (half slot gen : Nat) (b : List UInt8) (i : Nat) (hi : i < slot * half) : (writeJ s half slot gen b).1.now.getD i [] = s.now.getD i [] := by
  unfold writeJ
  rw [then_keep (fun s => by rw [flush_keep]), then_keep (fun s => write_keep (by omega)), then_keep (fun s => by rw [flush_keep]), puts_keep b _ i hi]
theorem commitJ_keep (j : Jr) (s : Dk) (b : List UInt8) (i : Nat) (hi : i < (1 - j.slot) * j.half) : (commitJ j s b).2.1.now.getD i [] = s.now.getD i [] := by
  unfold commitJ
  split
  · rfl
  · split
    · rfl
    · simp only
      split
      · exact writeJ_keep s _ _ _ b i hi
      · exact writeJ_keep s _ _ _ b i hi
theorem getD_setB (X : List UInt8) (p : Nat) (hp : p < X.length) (x : UInt8) (hx : x ≠ 0) : X[p]? ≠ some (X.getD p 0 ^^^ x) := by
  rw [List.getD_eq_getElem?_getD, List.getElem?_eq_getElem hp]
  intro h
  injection h with h
  simp only [Option.getD_some] at h
  apply hx
  have := congrArg (X[p] ^^^ ·) h
  simpa [← UInt8.xor_assoc] using this.symm
theorem spoilt_law (a b : List UInt8) (ha : a.length ≤ 200) (hb : b.length ≤ 200) : ∃ s1 j1 s2 j2 s3 j3, openJ (Dk.new 16) = (s1, 0, j1) ∧ commitJ j1 s1 a = (j2, s2, 0) ∧ commitJ j2 s2 b = (j3, s3, 0) ∧ s1.ops < 900000000 ∧ s2.ops < 900000000 ∧ s3.ops < 900000000 ∧ s3.read 8 = (headB 2 b, 0) ∧
    ∀ (p : Nat) (x : UInt8), p < 64 → x ≠ 0 → ∃ s4 s5, s3.write 8 ((headB 2 b).set p ((headB 2 b).getD p 0 ^^^ x)) = (s4, 0) ∧ s4.ops < 900000000 ∧ openJ s4 = (s5, 0, ⟨8, 0, 1, a, false⟩) := by
  obtain ⟨s1, j1, hop, hjs, hup, hg0, hhf, hops, hsl⟩ := open_new 16 (by decide) (by decide)
  obtain ⟨j2, s2, e2, hc2, hends2, hcu2, hln2, hco2⟩ := commit_law hjs (b := a) (by unfold roomJ; rw [hhf]; omega) (by omega)
  obtain ⟨rfl, hu2⟩ := hcu2 hup
  rcases hends2 with ⟨_, hj2, hjs2⟩ | ⟨h9, _⟩
  case inr => exact absurd h9 (by decide)
  have hg2 : j2.gen = 1 := by rw [hj2]; simp only; omega
  have hh2 : j2.half = 8 := by rw [hj2]; exact hhf
  have hs2 : j2.slot = 0 := by rw [hj2]; simp only; omega
  have hl2 : j2.last = a := by rw [hj2]
  obtain ⟨j3, s3, e3, hc3, hends3, hcu3, hln3, hco3⟩ := commit_law hjs2 (b := b) (by unfold roomJ; rw [hh2]; omega) (by omega)
  obtain ⟨rfl, hu3⟩ := hcu3 hu2
  rcases hends3 with ⟨_, hj3, hjs3⟩ | ⟨h9, _⟩
  case inr => exact absurd h9 (by decide)
  have hg3 : j3.gen = 2 := by rw [hj3]; simp only; omega
  have hh3 : j3.half = 8 := by rw [hj3]; exact hh2
  have hs3 : j3.slot = 1 := by rw [hj3]; simp only; omega
  have hl3 : j3.last = b := by rw [hj3]
  have hlen : s3.now.length = 16 := by
    have := hjs3.jok.half
    have h1 := hjs.jok.half
    have h2 : s1.now.length = 16 := by
      have h4 : (openJ (Dk.new 16)).1.now.length = 16 := by
        unfold openJ
        rw [if_neg (by simp [Dk.new]), if_neg (by simp [Dk.new])]
        simp only
        rw [flush_keep]
        simp [Dk.new]
      rw [hop] at h4
      exact h4
    omega
  have r2 : readS s2.now 8 0 = (a, 1) := by
    have h1 := hjs2.sure.cur (by omega)
    rw [hs2, hh2, hg2, hl2, ← (hjs2.free_ rfl).2.2, Nat.zero_mul] at h1
    exact h1
  have r3 : readS s3.now 8 0 = (a, 1) := by
    rw [← r2]
    refine readS_congr (fun i hi => ?_) (by decide)
    have h1 := commitJ_keep j2 s2 b (0 + i) (by rw [hs2, hh2]; omega)
    rw [hc3] at h1
    exact h1
  have k3 : s3.now.getD 8 [] = headB 2 b := by
    have h1 := hjs3.sure.cur (by omega)
    rw [hs3, hh3, hg3, hl3, ← (hjs3.free_ rfl).2.2] at h1
    exact readS_head h1 (by decide)
  refine ⟨s1, j1, s2, j2, s3, j3, hop, hc2, hc3, by omega, by omega, by omega, ?_, fun p x hp hx => ?_⟩
  · rw [← k3]
    exact Dk.up_read hu3 (k := 8) (by omega)
  · have hl : ((headB 2 b).set p ((headB 2 b).getD p 0 ^^^ x)).length = 64 := by rw [List.length_set, headB_len]
    have hw := Dk.up_write hjs3.sok hu3 (k := 8) (by omega) hl
    have hy := getD_setB (headB 2 b) p (by rw [headB_len]; exact hp) x hx
    generalize (headB 2 b).getD p 0 ^^^ x = y at hl hw hy
    have ho4 : (s3.oper.wrote 8 ((headB 2 b).set p y)).Ok := Dk.wrote_ok hjs3.sok (by omega) hl
    have hu4 : (s3.oper.wrote 8 ((headB 2 b).set p y)).up := Dk.up_wrote (Dk.up_oper hjs3.sok hu3) _ _
    have hn4 : (s3.oper.wrote 8 ((headB 2 b).set p y)).now = s3.now.set 8 ((headB 2 b).set p y) := rfl
    have hp4 : (s3.oper.wrote 8 ((headB 2 b).set p y)).ops = s3.ops + 1 := rfl
    refine ⟨_, (s3.oper.wrote 8 ((headB 2 b).set p y)).oper.flushed, hw, by omega, ?_⟩
    generalize s3.oper.wrote 8 ((headB 2 b).set p y) = s4 at ho4 hu4 hn4 hp4
    have hn : s4.now.length = 16 := by rw [hn4, List.length_set, hlen]
    unfold openJ
    rw [if_neg (by omega), if_neg (by rw [hu4.2]; simp), Dk.up_flush ho4 hu4]
    have e1 : readJ s4 8 0 = (a, 1) := by
      rw [readJ_S, Nat.zero_mul, ← r3, hn4]
      refine readS_congr (fun i hi => ?_) (by decide)
      rw [getD_set (by omega), if_neg (by omega)]
    have e2 : readJ s4 8 1 = ([], 0) := by
      rw [readJ_S, hn4]
      refine readS_spoilt fun g c => ?_
      rw [getD_set (by omega), if_pos (by omega)]
      exact head_spoilt hp hy g c
    have e3 : foundJ s4 = ⟨8, 0, 1, a, false⟩ := by
      unfold foundJ freshJ
      rw [hn, e1, e2]
      rfl
    rw [e3]
end Go.Proofs.Ytjddplddpdcmdaa
