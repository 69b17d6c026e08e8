/- Opening anew, with and without a crash: plain. -/
import Derived.Test.YtjddplddpdcmdaaJrLaw3P
namespace Go.Proofs.Ytjddplddpdcmdaa
set_option linter.unusedVariables false
set_option linter.unusedSimpArgs false

section
variable {j : Jr} {s : Dk} {b : List UInt8} {bg : Option (List UInt8)}
theorem readS_ok (X : List (List UInt8)) (half f : Nat) : (readS X half f).2 < 4294967296 ∧ (readS X half f).1.length ≤ (half - 1) * 64 := by
  unfold readS
  split
  · exact ⟨by decide, by simp⟩
  · split
    · refine ⟨deB4 _, ?_⟩
      rw [List.length_take]
      omega
    · exact ⟨by decide, by simp⟩
theorem Holds.ok {X : List (List UInt8)} {half slot gen : Nat} {last : List UInt8} (h : Holds X half slot gen last) : gen ≤ 4294967295 ∧ last.length ≤ (half - 1) * 64 := by
  by_cases h0 : gen = 0
  · obtain ⟨_, _, _, h4⟩ := h.none_ h0
    subst h4
    exact ⟨by omega, by simp⟩
  · have h1 := h.cur h0
    have h2 := readS_ok X half (slot * half)
    rw [h1] at h2
    exact ⟨by have := h2.1; simp only at this; omega, h2.2⟩
/-- what is found -/
def Found (j : Jr) (bg : Option (List UInt8)) (k : Jr) : Prop :=
  k.half = j.half ∧ k.broken = false ∧ ((k.slot = j.slot ∧ k.gen = j.gen ∧ k.last = j.last) ∨ ∃ b, bg = some b ∧ k.slot = 1 - j.slot ∧ k.gen = j.gen + 1 ∧ k.last = b)
theorem open_found {s' : Dk} (hj : j.Ok s'.now.length) (hs : s'.Ok) (hup : s'.up) (h : Holds s'.now j.half j.slot j.gen j.last ∨ ∃ b, bg = some b ∧ Holds s'.now j.half (1 - j.slot) (j.gen + 1) b) :
    ∃ sn k, openJ s' = (sn, 0, k) ∧ JS k sn none ∧ sn.up ∧ Found j bg k ∧ sn.ops = s'.ops + 1 := by
  have hh := hj.half
  rcases h with h | ⟨b, hb, h⟩
  · have ho := h.ok
    rw [hh] at h ho
    have hr := open_law hs hj.four hup h ho.1 ho.2
    exact ⟨_, _, hr.1, hr.2.1, hr.2.2, ⟨by rw [hh], rfl, .inl ⟨rfl, rfl, rfl⟩⟩, rfl⟩
  · have ho := h.ok
    rw [hh] at h ho
    have hr := open_law hs hj.four hup h ho.1 ho.2
    exact ⟨_, _, hr.1, hr.2.1, hr.2.2, ⟨by rw [hh], rfl, .inr ⟨b, hb, rfl, rfl, rfl⟩⟩, rfl⟩
theorem open_any (h : JS j s bg) (hup : s.up) : ∃ sn k, openJ s = (sn, 0, k) ∧ JS k sn none ∧ sn.up ∧ Found j bg k ∧ sn.ops = s.ops + 1 :=
  open_found h.jok h.sok hup (now_law h)
theorem crash_any (h : JS j s bg) (l : List UInt8) : ∃ sn k, openJ (s.crash l) = (sn, 0, k) ∧ JS k sn none ∧ sn.up ∧ Found j bg k ∧ sn.ops = s.ops + 1 := by
  have hl : (s.crash l).now.length = s.now.length := by
    have := crashI_ok s.log l s.sure h.sok.log ⟨h.sok.len, h.sok.sure⟩
    show (crashI s.log l s.sure).length = s.now.length
    rw [this.1]
  exact open_found (by rw [hl]; exact h.jok) (Dk.crash_ok h.sok l) (Dk.up_crash s l) (crash_law h l)
theorem JS.fused (h : JS j s bg) (n : Int) : JS j (s.fused n) bg := ⟨Dk.fused_ok h.sok n, h.jok, h.sure, h.free_, h.held⟩
theorem up_fused (s : Dk) : (s.fused 0).up := ⟨by simp [Dk.fused], rfl⟩
end
end Go.Proofs.Ytjddplddpdcmdaa
