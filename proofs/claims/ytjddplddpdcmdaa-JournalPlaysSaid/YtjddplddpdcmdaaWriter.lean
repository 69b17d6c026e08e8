/- Contracts of octet.Writer. -/
import Derived.Test.YtjddplddpdcmdaaRows
import Derived.Test.YtjddplddpdcmdaaOctetPlain
import Derived.Deep.RegionHeld3
import Derived.Deep.RegionLaw
import Derived.Deep.DrawnRows
import Derived.WalkSpells
namespace Go.Proofs.Ytjddplddpdcmdaa
open Go.RowKit
set_option linter.unusedVariables false
set_option linter.unusedSimpArgs false

theorem elem_byte : ElemOf Try.prog 31 5 (.int .u8 0) 1 := ⟨Try.underlying31, by kernel_rfl, rfl⟩

/-- the writer at p holds these bytes; v is its row -/
structure Wr (w : World) (B p : Nat) (v : Value) (bs : List UInt8) : Prop where
  blk : Blk w p 100 [v]
  own : w.ownsRow B 5 1 v bs.length (bytesV bs)
  ne : v.ownBlock ≠ some p
/-- what a writer may turn -/
def WrS (p : Nat) (v : Value) (i : Nat) : Prop := i = p ∨ v.ownBlock = some i
theorem Wr.off {w w' : World} {B p : Nat} {v : Value} {bs : List UInt8} {S : Nat → Prop} (h : Wr w B p v bs) (ho : Off S w w') (hp : ¬ S p) (hv : ∀ k, v.ownBlock = some k → ¬ S k) : Wr w' B p v bs :=
  ⟨h.blk.off ho hp, own_off h.own ho hv, h.ne⟩

/-- so many bytes were put behind -/
def Put (w : World) (B p : Nat) (v : Value) (bs : List UInt8) (e : Ending) (w' : World) : Prop :=
  e = .returned (.tuple #[]) ∧ ∃ v', Wr w' B p v' bs ∧ Fresh w v v' ∧ Off (WrS p v) w w'

set_option maxRecDepth 100000 in
attribute [local go_sem ↓] Go.wp_at_zero Go.wp_at_succ in
theorem put_any (w : World) (B p : Nat) (v : Value) (bs : List UInt8) (h : Wr w B p v bs) (hB : B ≤ w.heap.size) (n wd : Nat) (hn : n < 18446744073709551616) (hw : wd ≤ 8) (hl : bs.length + 8 ≤ 140737488355328) :
    Calls Try.prog 62 #[.pointer (some ⟨p, 0, none⟩), .int .u64 n, .int .i64 wd] w (Put w B p v (bs ++ beB n wd)) := by
  have hp := h.blk.lt
  go_enter Try.func62, Try.ntmps62
  go_wp2
  go_loopw [10] (fun i wr => ∃ (k : Nat) (u : Value), k ≤ wd ∧ i = .int .i64 k ∧ Wr wr B p u (bs ++ (beB n wd).take k) ∧ Fresh w v u ∧ Off (WrS p v) w wr)
    (fun i _ => wd - (intOf i).toNat)
  case atStart => exact ⟨0, v, by omega, rfl, by simpa using h, Fresh.refl _ _, Off.refl _ _⟩
  case round =>
    obtain ⟨k, u, hk, rfl, hwr, hfr, hoff⟩ := hrel
    by_cases hlt : k < wd
    · have hnx : bs ++ (beB n wd).take (k + 1) = (bs ++ (beB n wd).take k) ++ [UInt8.ofNat (n / 2 ^ (8 * (wd - 1 - k)) % 256)] := by rw [beB_step n wd k hlt, List.append_assoc]
      have hby := byte_walk n wd k hlt
      have hlen : (bs ++ (beB n wd).take k).length + 1 ≤ 140737488355328 := by rw [List.length_append, List.length_take, length_beB]; omega
      generalize bs ++ (beB n wd).take k = cs at hnx hwr hlen
      generalize UInt8.ofNat (n / 2 ^ (8 * (wd - 1 - k)) % 256) = b at hnx hby
      have hc : wr.cell? ⟨p, 0, none⟩ = some u := hwr.blk.cell 0
      have hf := hwr.blk.free 0
      have hps := hwr.blk.lt
      have e1 : IntKind.i64.wrap ((wd : Int) - 1) = (wd : Int) - 1 := IntWalk.i64_in _ (by omega)
      have e2 : IntKind.i64.wrap ((wd : Int) - 1 - (k : Int)) = (wd : Int) - 1 - (k : Int) := IntWalk.i64_in _ (by omega)
      have e3 : IntKind.i64.wrap (8 * ((wd : Int) - 1 - (k : Int))) = 8 * ((wd : Int) - 1 - (k : Int)) := IntWalk.i64_in _ (by omega)
      have s0 : 0 ≤ 8 * ((wd : Int) - 1 - (k : Int)) := by omega
      have s1 : 8 * ((wd : Int) - 1 - (k : Int)) ≤ 64 := by omega
      have hB2 : B ≤ wr.heap.size := by have := hoff.size; omega
      have hne : some p ≠ u.ownBlock := Ne.symm hwr.ne
      have HNX := Lib.hid hnx
      clear hnx
      go_wp2
      go_region_law
        ((refine step_extend elem_byte _ (by rfl) _ _ (by rfl) B _ u _ (by rfl) ((hwr.own.alloc _).drew) _ _ [_] (by rfl) (Reads.one_ wr _ _).drew (by simp [Value.oneCell']) (by simp only [List.length_cons, List.length_nil, maxLen]; omega) (by simp only [List.length_cons, List.length_nil]; omega) (by simp; omega) ?_; intro A' c' w1 hown hgrow hfr'; have hbk := (hwr.blk.alloc _).drew.grown hgrow hne; have hc1 : w1.cell? ⟨p, 0, none⟩ = some u := hbk.cell 0; have hf1 := hbk.free 0))
      all_goals
        clear e1 e2 e3 s0 s1 hby hc hf hc1 hf1
        have hb1 : Blk (w1.setCell ⟨p, 0, none⟩ (.slice A' (cs.length + 1) c')) p 100 [.slice A' (cs.length + 1) c'] := hbk.put 0 _
        have ho1 : Off (WrS p v) w (w1.setCell ⟨p, 0, none⟩ (.slice A' (cs.length + 1) c')) :=
          ((((hoff.alloc _).drew).grown hgrow (fun g hg => by
            rcases hfr.off hg with h1 | h1
            · exact .inl (.inr h1)
            · exact .inr h1)).setCell (p := ⟨p, 0, none⟩) (.inl (.inl rfl)) _)
        have hfr2 : Fresh w v (.slice A' (cs.length + 1) c') := hfr.trans (by have := hoff.size; simp; omega) hfr'
        have hne2 : (Value.slice A' (cs.length + 1) c').ownBlock ≠ some p := by
          intro he
          rcases hfr'.off he with h1 | h1
          · exact hwr.ne h1
          · simp at h1; omega
        have hown2 : (w1.setCell ⟨p, 0, none⟩ (.slice A' (cs.length + 1) c')).ownsRow B 5 1 (.slice A' (cs.length + 1) c') (cs ++ [b]).length (bytesV (cs ++ [b])) := by
          have h1 := own_off (w' := w1.setCell ⟨p, 0, none⟩ (.slice A' (cs.length + 1) c')) hown ((Off.refl (fun i => i = p) w1).setCell (p := ⟨p, 0, none⟩) (.inl rfl) _) (fun k hk he => hne2 (by rw [← he]; exact hk))
          rw [← bytesV_append, List.length_append]
          exact h1
        have hw2 : Wr (w1.setCell ⟨p, 0, none⟩ (.slice A' (cs.length + 1) c')) B p (.slice A' (cs.length + 1) c') (cs ++ [b]) := ⟨hb1, hown2, hne2⟩
        rw [← HNX.out] at hw2
        clear hb1 hown2 hne2 hfr' hgrow hown hbk hwr hfr hoff HNX hne
        go_wp2
        go_roundw
        case rel => exact ⟨k + 1, _, by omega, by go_num, hw2, hfr2, ho1⟩
        case measure => simp [intOf]; omega
    · obtain rfl : k = wd := by omega
      rw [beB_all] at hwr
      go_wp2
      go_end0
      exact ⟨rfl, u, hwr, hfr, hoff⟩
end Go.Proofs.Ytjddplddpdcmdaa
