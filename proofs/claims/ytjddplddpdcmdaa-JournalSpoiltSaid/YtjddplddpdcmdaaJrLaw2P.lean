/- A journal and its disk through commits, crashes: plain. -/
import Derived.Test.YtjddplddpdcmdaaJrLawP
import Derived.Test.YtjddplddpdcmdaaJrOpen
import Derived.Test.YtjddplddpdcmdaaJrCommit
namespace Go.Proofs.Ytjddplddpdcmdaa
set_option linter.unusedVariables false
set_option linter.unusedSimpArgs false

/-- the sectors so far, while bytes go into the slot from f on -/
structure AtI (S0 : List (List UInt8)) (N f half : Nat) (b : List UInt8) (k : Nat) (s : Dk) : Prop where
  ok : s.Ok
  len : s.now.length = N
  sure : s.sure = S0
  log : ∀ e ∈ s.log, f < e.1 ∧ e.1 < f + half
  off : ∀ i, ¬ (f < i ∧ i < f + half) → s.now.getD i [] = S0.getD i []
  done : ∀ i, i < k → s.now.getD (f + 1 + i) [] = chunkJ b i
theorem getD_set {X : List (List UInt8)} {i k : Nat} {x : List UInt8} (h : i < X.length) : (X.set i x).getD k [] = if i = k then x else X.getD k [] := by
  simp only [List.getD_eq_getElem?_getD]
  by_cases hk : i = k
  · subst hk; simp [h]
  · simp [List.getElem?_set, hk]
theorem Dk.write_in {s : Dk} {i : Nat} {x : List UInt8} (hi : i < s.now.length) (hx : x.length = 64) : s.write (i : Int) x = if s.oper.down = true then (s.oper, 9) else (s.oper.wrote i x, 0) := by
  unfold Dk.write
  rw [if_pos ⟨Dk.hasI_of hi, hx⟩, Int.toNat_natCast]
section
variable {S0 : List (List UInt8)} {N f half k : Nat} {b : List UInt8} {s : Dk}
theorem AtI.oper (h : AtI S0 N f half b k s) : AtI S0 N f half b k s.oper := ⟨Dk.oper_ok h.ok, h.len, h.sure, h.log, h.off, h.done⟩
theorem AtI.less (h : AtI S0 N f half b k s) : AtI S0 N f half b 0 s := ⟨h.ok, h.len, h.sure, h.log, h.off, fun i hi => by omega⟩
theorem AtI.next (h : AtI S0 N f half b k s) (hf : f + half ≤ N) (hk : k < secsN b.length) (hm : secsN b.length ≤ half - 1) : AtI S0 N f half b (k + 1) (s.oper.wrote (f + 1 + k) (chunkJ b k)) := by
  have hi : f + 1 + k < s.now.length := by rw [h.len]; omega
  have hc := chunkJ_len b hk
  refine ⟨Dk.wrote_ok h.ok hi hc, ?_, h.sure, fun e he => ?_, fun i hi2 => ?_, fun i hi2 => ?_⟩
  · show (s.now.set _ _).length = N
    rw [List.length_set, h.len]
  · rcases List.mem_append.1 (show e ∈ s.log ++ [(f + 1 + k, chunkJ b k)] from he) with he | he
    · exact h.log e he
    · obtain rfl := List.mem_singleton.1 he
      simp only
      omega
  · show (s.now.set (f + 1 + k) _).getD i [] = _
    rw [getD_set hi, if_neg (by omega)]
    exact h.off i hi2
  · show (s.now.set (f + 1 + k) _).getD (f + 1 + i) [] = _
    rw [getD_set hi]
    by_cases hik : k = i
    · subst hik; rw [if_pos rfl]
    · rw [if_neg (by omega)]
      exact h.done i (by omega)
theorem puts_law (hf : f + half ≤ N) (hm : secsN b.length ≤ half - 1) : ∀ (r k : Nat) (s : Dk), AtI S0 N f half b k s → k + r = secsN b.length →
    (((putsJ b f r k s).2 = 0 ∧ AtI S0 N f half b (secsN b.length) (putsJ b f r k s).1) ∨ ((putsJ b f r k s).2 = 9 ∧ AtI S0 N f half b 0 (putsJ b f r k s).1)) ∧ (s.up → (putsJ b f r k s).2 = 0 ∧ (putsJ b f r k s).1.up)
  | 0, k, s, h, hk => ⟨.inl ⟨rfl, by have : k = secsN b.length := by omega
                                     exact this ▸ h⟩, fun hu => ⟨rfl, hu⟩⟩
  | r + 1, k, s, h, hk => by
    have hw := Dk.write_in (s := s) (i := f + 1 + k) (x := chunkJ b k) (by rw [h.len]; omega) (chunkJ_len b (by omega))
    have ih := puts_law hf hm r (k + 1) _ (h.next hf (by omega) hm) (by omega)
    rw [putsJ, hw]
    by_cases hd : s.oper.down = true
    · rw [if_pos hd]
      simp only
      rw [if_pos (by decide)]
      refine ⟨.inr ⟨rfl, h.oper.less⟩, fun hu => ?_⟩
      have := (Dk.up_oper h.ok hu).2
      rw [hd] at this
      cases this
    · rw [if_neg hd]
      simp only
      rw [if_neg (by decide)]
      exact ⟨ih.1, fun hu => ih.2 (Dk.up_wrote (Dk.up_oper h.ok hu) _ _)⟩
end
/-- a commit that was broken off -/
def Part (s : Dk) (j : Jr) (b : List UInt8) : Prop :=
  ((∀ e ∈ s.log, (1 - j.slot) * j.half < e.1 ∧ e.1 < (1 - j.slot) * j.half + j.half) ∧ (∀ i, ¬ ((1 - j.slot) * j.half < i ∧ i < (1 - j.slot) * j.half + j.half) → s.now.getD i [] = s.sure.getD i [])) ∨
  (((s.log = [] ∧ s.now = s.sure) ∨ (s.log = [((1 - j.slot) * j.half, headB (j.gen + 1) b)] ∧ s.now = s.sure.set ((1 - j.slot) * j.half) (headB (j.gen + 1) b))) ∧ Holds (s.sure.set ((1 - j.slot) * j.half) (headB (j.gen + 1) b)) j.half (1 - j.slot) (j.gen + 1) b)
structure JS (j : Jr) (s : Dk) (bg : Option (List UInt8)) : Prop where
  sok : s.Ok
  jok : j.Ok s.now.length
  sure : Holds s.sure j.half j.slot j.gen j.last
  free_ : bg = none → j.broken = false ∧ s.log = [] ∧ s.now = s.sure
  held : ∀ b, bg = some b → j.broken = true ∧ Part s j b
theorem half_two {j : Jr} {n : Nat} (h : j.Ok n) : 2 ≤ j.half ∧ ∀ σ, σ ≤ 1 → σ * j.half + j.half ≤ n := by
  have h1 := h.half
  have h2 := h.four
  refine ⟨by omega, fun σ hσ => ?_⟩
  rcases Nat.le_one_iff_eq_zero_or_eq_one.1 hσ with rfl | rfl <;> omega
/-- what a write into the other slot comes to -/
structure Wrote (s : Dk) (j : Jr) (b : List UInt8) (r : Dk × Int) : Prop where
  ok : r.1.Ok
  len : r.1.now.length = s.now.length
  ends : (r.2 = 0 ∧ r.1.log = [] ∧ r.1.now = r.1.sure ∧ Holds r.1.sure j.half (1 - j.slot) (j.gen + 1) b) ∨ (r.2 = 9 ∧ Holds r.1.sure j.half j.slot j.gen j.last ∧ Part r.1 j b)
  up : s.up → r.2 = 0 ∧ r.1.up
theorem Dk.flush_ok {s : Dk} (h : s.Ok) : s.flush.1.Ok := by
  unfold Dk.flush
  split
  · exact Dk.oper_ok h
  · exact Dk.flushed_ok h
theorem write_law {j : Jr} {s : Dk} {b : List UInt8} (h : JS j s none) (hb : b.length ≤ (j.half - 1) * 64) (hg : j.gen + 1 < 4294967296) : Wrote s j b (writeJ s j.half (1 - j.slot) (j.gen + 1) b) := by
  obtain ⟨hbr, hlog, hnow⟩ := h.free_ rfl
  obtain ⟨hh, hfb⟩ := half_two h.jok
  have hsl := h.sure.sl
  obtain ⟨f, hf⟩ : ∃ f, (1 - j.slot) * j.half = f := ⟨_, rfl⟩
  have hfN := hfb (1 - j.slot) (by omega)
  rw [hf] at hfN
  have hm := secsN_le hb
  have hbl : b.length < 4294967296 := by
    have := h.jok.half
    have := h.jok.most
    omega
  have h0 : AtI s.sure s.now.length f j.half b 0 s := ⟨h.sok, rfl, rfl, fun e he => (by rw [hlog] at he; cases he), fun i _ => (by rw [hnow]), fun i hi => (by omega)⟩
  obtain ⟨hp, hpu⟩ := puts_law hfN hm (secsN b.length) 0 s h0 (by omega)
  unfold writeJ
  rw [hf]
  generalize putsJ b f (secsN b.length) 0 s = p at hp hpu
  obtain ⟨p1, p2⟩ := p
  simp only at hp hpu
  have hdata : ∀ s' : Dk, AtI s.sure s.now.length f j.half b 0 s' → Holds s'.sure j.half j.slot j.gen j.last ∧ Part s' j b := fun s' hs => by
    refine ⟨by rw [hs.sure]; exact h.sure, .inl ⟨fun e he => by rw [hf]; exact hs.log e he, fun i hi => by rw [hs.sure]; exact hs.off i (by rw [hf] at hi; exact hi)⟩⟩
  rcases hp with ⟨rfl, hp⟩ | ⟨rfl, hp⟩
  · rw [show thenJ (p1, 0) Dk.flush = p1.flush by simp [thenJ]]
    by_cases hd : p1.oper.down = true
    · have e1 : p1.flush = (p1.oper, 9) := by unfold Dk.flush; rw [if_pos hd]
      rw [e1, show thenJ (thenJ (p1.oper, 9) fun s => s.write (f : Int) (headB (j.gen + 1) b)) Dk.flush = (p1.oper, 9) by simp [thenJ]]
      refine ⟨hp.oper.ok, hp.oper.len, .inr ⟨rfl, hdata _ hp.oper.less⟩, fun hu => ?_⟩
      have := (Dk.up_oper hp.ok (hpu hu).2).2
      rw [hd] at this
      cases this
    · have e1 : p1.flush = (p1.oper.flushed, 0) := by unfold Dk.flush; rw [if_neg hd]
      rw [e1, show thenJ (p1.oper.flushed, 0) (fun s => s.write (f : Int) (headB (j.gen + 1) b)) = p1.oper.flushed.write (f : Int) (headB (j.gen + 1) b) by simp [thenJ]]
      have hs2 : p1.oper.flushed.Ok := Dk.flushed_ok hp.ok
      have hl2 : p1.oper.flushed.now.length = s.now.length := hp.len
      have hup2 : s.up → p1.oper.flushed.up := fun hu => Dk.up_flushed (Dk.up_oper hp.ok (hpu hu).2)
      have hn2 : p1.oper.flushed.now = p1.now := rfl
      have hsu2 : p1.oper.flushed.sure = p1.now := rfl
      have hlg2 : p1.oper.flushed.log = [] := rfl
      have hfl : f < p1.now.length := by rw [hp.len]; omega
      -- the data are sure
      have hold : Holds p1.now j.half j.slot j.gen j.last := h.sure.data hh (fun i hi => hp.off i (by rw [hf] at hi; exact hi))
      have hnew : Holds (p1.now.set f (headB (j.gen + 1) b)) j.half (1 - j.slot) (j.gen + 1) b := by
        refine h.sure.next hh hsl hg hb hbl (fun i hi => ?_) ?_ (fun i hi => ?_)
        · rw [hf] at hi
          rw [getD_set hfl, if_neg (by omega)]
          exact hp.off i (by omega)
        · rw [hf, getD_set hfl, if_pos rfl]
        · rw [hf, getD_set hfl, if_neg (by omega)]
          exact hp.done i hi
      generalize p1.oper.flushed = s2 at hs2 hl2 hup2 hn2 hsu2 hlg2 ⊢
      have hw := Dk.write_in (s := s2) (i := f) (x := headB (j.gen + 1) b) (by rw [hl2]; omega) (headB_len _ _)
      rw [hw]
      by_cases hd2 : s2.oper.down = true
      · rw [if_pos hd2, show thenJ (s2.oper, 9) Dk.flush = (s2.oper, 9) by simp [thenJ]]
        refine ⟨Dk.oper_ok hs2, hl2, .inr ⟨rfl, ?_, .inr ⟨.inl ⟨hlg2, ?_⟩, ?_⟩⟩, fun hu => ?_⟩
        · show Holds s2.sure _ _ _ _
          rw [hsu2]; exact hold
        · show s2.now = s2.sure
          rw [hn2, hsu2]
        · show Holds (s2.sure.set _ _) _ _ _ _
          rw [hsu2, hf]; exact hnew
        · have := (Dk.up_oper hs2 (hup2 hu)).2
          rw [hd2] at this
          cases this
      · rw [if_neg hd2, show thenJ (s2.oper.wrote f (headB (j.gen + 1) b), 0) Dk.flush = (s2.oper.wrote f (headB (j.gen + 1) b)).flush by simp [thenJ]]
        have hs3 : (s2.oper.wrote f (headB (j.gen + 1) b)).Ok := Dk.wrote_ok hs2 (by rw [hl2]; omega) (headB_len _ _)
        have hl3 : (s2.oper.wrote f (headB (j.gen + 1) b)).now.length = s.now.length := by show (s2.now.set _ _).length = _; rw [List.length_set, hl2]
        have hn3 : (s2.oper.wrote f (headB (j.gen + 1) b)).now = p1.now.set f (headB (j.gen + 1) b) := by show s2.now.set _ _ = _; rw [hn2]
        have hsu3 : (s2.oper.wrote f (headB (j.gen + 1) b)).sure = p1.now := hsu2
        have hlg3 : (s2.oper.wrote f (headB (j.gen + 1) b)).log = [(f, headB (j.gen + 1) b)] := by show s2.log ++ _ = _; rw [hlg2]; rfl
        have hup3 : s.up → (s2.oper.wrote f (headB (j.gen + 1) b)).up := fun hu => Dk.up_wrote (Dk.up_oper hs2 (hup2 hu)) _ _
        generalize s2.oper.wrote f (headB (j.gen + 1) b) = s3 at hs3 hl3 hn3 hsu3 hlg3 hup3 ⊢
        by_cases hd3 : s3.oper.down = true
        · have e3 : s3.flush = (s3.oper, 9) := by unfold Dk.flush; rw [if_pos hd3]
          rw [e3]
          refine ⟨Dk.oper_ok hs3, hl3, .inr ⟨rfl, ?_, .inr ⟨.inr ⟨?_, ?_⟩, ?_⟩⟩, fun hu => ?_⟩
          · show Holds s3.sure _ _ _ _
            rw [hsu3]; exact hold
          · show s3.log = _
            rw [hlg3, hf]
          · show s3.now = s3.sure.set _ _
            rw [hn3, hsu3, hf]
          · show Holds (s3.sure.set _ _) _ _ _ _
            rw [hsu3, hf]; exact hnew
          · have := (Dk.up_oper hs3 (hup3 hu)).2
            rw [hd3] at this
            cases this
        · have e3 : s3.flush = (s3.oper.flushed, 0) := by unfold Dk.flush; rw [if_neg hd3]
          rw [e3]
          refine ⟨Dk.flushed_ok hs3, hl3, .inl ⟨rfl, rfl, rfl, ?_⟩, fun hu => ⟨rfl, Dk.up_flushed (Dk.up_oper hs3 (hup3 hu))⟩⟩
          show Holds s3.now _ _ _ _
          rw [hn3]; exact hnew
  · rw [show thenJ (p1, 9) Dk.flush = (p1, 9) by simp [thenJ], show thenJ (thenJ (p1, 9) fun s => s.write (f : Int) (headB (j.gen + 1) b)) Dk.flush = (p1, 9) by simp [thenJ]]
    exact ⟨hp.ok, hp.len, .inr ⟨rfl, hdata _ hp⟩, fun hu => by have := (hpu hu).1; simp at this⟩
end Go.Proofs.Ytjddplddpdcmdaa
