/- Commits, crashes, opening anew: what they come to, plain. -/
import Derived.Test.YtjddplddpdcmdaaJrLaw2P
namespace Go.Proofs.Ytjddplddpdcmdaa
set_option linter.unusedVariables false
set_option linter.unusedSimpArgs false

section
variable {j : Jr} {s : Dk} {b : List UInt8} {bg : Option (List UInt8)}
theorem puts_ops (b : List UInt8) (f : Nat) : ∀ (r k : Nat) (s : Dk), (putsJ b f r k s).1.ops ≤ s.ops + r
  | 0, k, s => by simp [putsJ]
  | r + 1, k, s => by
    have h1 := write_ops s ((f + 1 + k : Nat) : Int) (chunkJ b k)
    rw [putsJ]
    split
    · omega
    · have := puts_ops b f r (k + 1) (s.write ((f + 1 + k : Nat) : Int) (chunkJ b k)).1
      omega
theorem then_ops {r : Dk × Int} {f : Dk → Dk × Int} (hf : ∀ s, (f s).1.ops ≤ s.ops + 1) : (thenJ r f).1.ops ≤ r.1.ops + 1 := by
  unfold thenJ
  split
  · omega
  · exact hf _
theorem writeJ_ops (s : Dk) (half slot gen : Nat) (b : List UInt8) : (writeJ s half slot gen b).1.ops ≤ s.ops + secsN b.length + 3 := by
  unfold writeJ
  have h1 := puts_ops b (slot * half) (secsN b.length) 0 s
  have h2 := then_ops (r := putsJ b (slot * half) (secsN b.length) 0 s) flush_ops
  have h3 := then_ops (r := thenJ (putsJ b (slot * half) (secsN b.length) 0 s) Dk.flush) (f := fun s => s.write ((slot * half : Nat) : Int) (headB gen b)) (fun s => write_ops s _ _)
  have h4 := then_ops (r := thenJ (thenJ (putsJ b (slot * half) (secsN b.length) 0 s) Dk.flush) (fun s => s.write ((slot * half : Nat) : Int) (headB gen b))) flush_ops
  omega
theorem commit_law (h : JS j s none) (hb : b.length ≤ roomJ j) (hg : j.gen < 4294967295) :
    ∃ jn sn e, commitJ j s b = (jn, sn, e) ∧ ((e = 0 ∧ jn = { j with slot := 1 - j.slot, gen := j.gen + 1, last := b } ∧ JS jn sn none) ∨ (e = 9 ∧ jn = { j with broken := true } ∧ JS jn sn (some b))) ∧
      (s.up → e = 0 ∧ sn.up) ∧ sn.now.length = s.now.length ∧ sn.ops ≤ s.ops + 3000 := by
  have hw := write_law h (b := b) hb (by omega)
  have hf := h.free_ rfl
  have ho := writeJ_ops s j.half (1 - j.slot) (j.gen + 1) b
  have hm : secsN b.length ≤ 2048 := by
    have h1 := secsN_le (n := b.length) (half := j.half) hb
    have h2 := h.jok.half
    have h3 := h.jok.most
    omega
  unfold commitJ
  rw [if_neg (by rw [hf.1]; simp), if_neg (by omega)]
  generalize writeJ s j.half (1 - j.slot) (j.gen + 1) b = r at hw ho
  obtain ⟨sn, e⟩ := r
  obtain ⟨hok, hlen, hends, hup⟩ := hw
  simp only at hok hlen hends hup ho
  have hsl := h.sure.sl
  rcases hends with ⟨rfl, h1, h2, h3⟩ | ⟨rfl, h1, h2⟩
  · refine ⟨_, _, _, rfl, .inl ⟨rfl, rfl, hok, ?_, h3, fun _ => ⟨hf.1, h1, h2⟩, fun b hb => (by cases hb)⟩, hup, hlen, by simp only; omega⟩
    refine ⟨?_, ?_, ?_, ?_, ?_, hb⟩
    · simp only; rw [hlen]; exact h.jok.half
    · rw [hlen]; exact h.jok.four
    · rw [hlen]; exact h.jok.most
    · simp only; omega
    · simp only; omega
  · refine ⟨_, _, _, rfl, .inr ⟨rfl, rfl, hok, ?_, h1, fun h0 => (by cases h0), fun b' hb' => ?_⟩, hup, hlen, by simp only; omega⟩
    · rw [hlen]; exact ⟨h.jok.half, h.jok.four, h.jok.most, h.jok.slot, h.jok.gen, h.jok.last⟩
    · injection hb' with hb'
      subst hb'
      exact ⟨rfl, h2⟩
theorem commit_no (h : JS j s (some b)) (x : List UInt8) : commitJ j s x = (j, s, 11) := by
  unfold commitJ
  rw [if_pos (h.held b rfl).1]
theorem crashI_off {f half : Nat} : ∀ (log : List (Nat × List UInt8)) (l : List UInt8) (sure : List (List UInt8)), (∀ e ∈ log, (f < e.1 ∧ e.1 < f + half) ∧ e.1 < sure.length) → ∀ i, ¬ (f < i ∧ i < f + half) → (crashI log l sure).getD i [] = sure.getD i []
  | [], _, _, _, _, _ => rfl
  | e :: r, l, sure, h, i, hi => by
    have he := h e (by simp)
    have hp : ∀ p, (pickI p e.1 e.2 sure).length = sure.length ∧ (pickI p e.1 e.2 sure).getD i [] = sure.getD i [] := by
      intro p
      unfold pickI
      split
      · exact ⟨by simp, by rw [getD_set he.2, if_neg (by omega)]⟩
      · split
        · exact ⟨by simp, by rw [getD_set he.2, if_neg (by omega)]⟩
        · exact ⟨rfl, rfl⟩
    cases l with
    | nil =>
      rw [crashI, crashI_off r [] _ (fun x hx => by rw [(hp 0).1]; exact h x (by simp [hx])) i hi]
      exact (hp 0).2
    | cons x l =>
      rw [crashI, crashI_off r l _ (fun y hy => by rw [(hp x.toNat).1]; exact h y (by simp [hy])) i hi]
      exact (hp x.toNat).2
theorem crash_law (h : JS j s bg) (l : List UInt8) : Holds (s.crash l).now j.half j.slot j.gen j.last ∨ ∃ b, bg = some b ∧ Holds (s.crash l).now j.half (1 - j.slot) (j.gen + 1) b := by
  obtain ⟨hh, hfb⟩ := half_two h.jok
  have hsl := h.sure.sl
  have hlen : s.sure.length = s.now.length := h.sok.len
  cases bg with
  | none =>
    obtain ⟨_, h2, h3⟩ := h.free_ rfl
    left
    show Holds (crashI s.log l s.sure) _ _ _ _
    rw [h2]
    exact h.sure
  | some b =>
    obtain ⟨_, hp⟩ := h.held b rfl
    rcases hp with ⟨h1, h2⟩ | ⟨h1, h2⟩
    · left
      exact h.sure.data hh (crashI_off s.log l s.sure (fun e he => ⟨h1 e he, by rw [hlen]; exact (h.sok.log e he).1⟩))
    · rcases h1 with ⟨h1, _⟩ | ⟨h1, _⟩
      · left
        show Holds (crashI s.log l s.sure) _ _ _ _
        rw [h1]
        exact h.sure
      · have hz := h.sure.zero (1 - j.slot) (by omega)
        have hlt : (1 - j.slot) * j.half < s.sure.length := by rw [hlen]; have := hfb (1 - j.slot) (by omega); omega
        have key : ∀ p, pickI p ((1 - j.slot) * j.half) (headB (j.gen + 1) b) s.sure = s.sure ∨ pickI p ((1 - j.slot) * j.half) (headB (j.gen + 1) b) s.sure = s.sure.set ((1 - j.slot) * j.half) (headB (j.gen + 1) b) := by
          intro p
          unfold pickI
          split
          · exact .inr rfl
          · split
            · right
              rw [hz, ← headB_tail (j.gen + 1) b, List.take_append_drop]
            · exact .inl rfl
        have e : ∃ p, crashI s.log l s.sure = pickI p ((1 - j.slot) * j.half) (headB (j.gen + 1) b) s.sure := by
          rw [h1]
          cases l with
          | nil => exact ⟨0, rfl⟩
          | cons x l => exact ⟨x.toNat, rfl⟩
        obtain ⟨p, e⟩ := e
        rcases key p with hk | hk
        · left
          show Holds (crashI s.log l s.sure) _ _ _ _
          rw [e, hk]
          exact h.sure
        · right
          refine ⟨b, rfl, ?_⟩
          show Holds (crashI s.log l s.sure) _ _ _ _
          rw [e, hk]
          exact h2
/-- without a crash -/
theorem now_law (h : JS j s bg) : Holds s.now j.half j.slot j.gen j.last ∨ ∃ b, bg = some b ∧ Holds s.now j.half (1 - j.slot) (j.gen + 1) b := by
  obtain ⟨hh, hfb⟩ := half_two h.jok
  cases bg with
  | none =>
    obtain ⟨_, _, h3⟩ := h.free_ rfl
    left
    rw [h3]
    exact h.sure
  | some b =>
    obtain ⟨_, hp⟩ := h.held b rfl
    rcases hp with ⟨h1, h2⟩ | ⟨h1, h2⟩
    · left
      exact h.sure.data hh h2
    · rcases h1 with ⟨_, h1⟩ | ⟨_, h1⟩
      · left; rw [h1]; exact h.sure
      · right; exact ⟨b, rfl, by rw [h1]; exact h2⟩
theorem open_law {slot gen : Nat} {last : List UInt8} (hs : s.Ok) (h4 : 4 ≤ s.now.length) (hup : s.up) (h : Holds s.now (s.now.length / 2) slot gen last) (hg : gen ≤ 4294967295) (hl : last.length ≤ (s.now.length / 2 - 1) * 64) :
    openJ s = (s.oper.flushed, 0, ⟨s.now.length / 2, slot, gen, last, false⟩) ∧ JS ⟨s.now.length / 2, slot, gen, last, false⟩ s.oper.flushed none ∧ s.oper.flushed.up := by
  have hf := h.found rfl
  refine ⟨?_, ?_, Dk.up_flushed (Dk.up_oper hs hup)⟩
  · unfold openJ
    rw [if_neg (by omega), if_neg (by rw [hup.2]; simp), Dk.up_flush hs hup, hf]
  · exact ⟨Dk.flushed_ok hs, ⟨rfl, h4, hs.most, h.sl, hg, hl⟩, h, fun _ => ⟨rfl, rfl, rfl⟩, fun b hb => (by cases hb)⟩
/-- a new disk holds none -/
theorem new_holds (n : Nat) (h4 : 4 ≤ n) : Holds (Dk.new n).now (n / 2) 1 0 [] := by
  have hz : ∀ i, i < n → (Dk.new n).now.getD i [] = List.replicate 64 0 := fun i hi => by
    show (List.replicate n (List.replicate 64 0)).getD i [] = _
    simp [List.getD_eq_getElem?_getD, hi]
  have hg : ∀ i, i < n → hgenS (Dk.new n).now i = 0 := fun i hi => by unfold hgenS; rw [hz i hi]; decide
  refine ⟨fun σ hσ => ?_, Nat.le_refl _, fun h => absurd rfl h, fun h => absurd rfl h, fun _ => ⟨hg _ (by omega), hg _ (by omega), rfl, rfl⟩⟩
  rw [hz _ (by rcases Nat.le_one_iff_eq_zero_or_eq_one.1 hσ with rfl | rfl <;> omega)]
  decide
end
end Go.Proofs.Ytjddplddpdcmdaa
