/- What the reference's Decode reads: the memory, plain laws; pedagogueref24.smalls. -/
import Derived.Test.YtcjpibdgnjncmaaCodDec3P
import Derived.Test.YtcjpibdgnjncmaaRefShape
import Derived.Test.YtcjpibdgnjncmaaReader4
namespace Go.Proofs.Ytcjpibdgnjncmaa
open Go.RowKit
set_option linter.unusedVariables false
set_option linter.unusedSimpArgs false

theorem rds_inv {s : RdV} {n : Int} (h : RdInv s.1 s.2) : RdInv (rds s n).1 (rds s n).2 := takeInv h
theorem rdRun_invQ (k : Nat) (f : List UInt8 → Int) : ∀ (n : Nat) (z : List Int × RdV), RdInv z.2.1 z.2.2 → RdInv (rdRun k f n z).2.1 (rdRun k f n z).2.2
  | 0, z, h => h
  | n + 1, z, h => by
    rw [rdRun]
    exact rdRun_invQ k f n _ (rds_inv h)
theorem chk_short {s : RdV} {ok : Bool} (hi : RdInv s.1 s.2) (h : s.2 ≠ 0) : chk ⟨0, s⟩ ok = ⟨4, s⟩ := by
  rcases hi with h1 | ⟨h1, h2⟩
  · exact absurd h1 h
  · unfold chk
    rw [if_neg (by simp), if_pos (by unfold endErr; rw [if_neg (by rintro ⟨h3, _⟩; exact h h3)]; exact h1)]
theorem endErr_ne {s : RdV} (h : s.2 = 0) : endErr s.1 s.2 ≠ 4 := by
  unfold endErr
  rw [h]
  split <;> decide
theorem chk_good {s : RdV} (h : s.2 = 0) : chk ⟨0, s⟩ true = ⟨0, s⟩ := by
  unfold chk
  rw [if_neg (by simp), if_neg (endErr_ne h), if_pos rfl]
theorem chk_bad {s : RdV} (h : s.2 = 0) : chk ⟨0, s⟩ false = ⟨5, s⟩ := by
  unfold chk
  rw [if_neg (by simp), if_neg (endErr_ne h), if_neg (by decide)]
theorem Rd.alt {T : TypeId} {w : World} {p : Nat} {A : Option Addr} {c : Nat} {bs : List UInt8} {e : Int} (h : Rd T w p A c bs e) (h0 : 0 < bs.length) (a : Addr) (ha : A = some a) : a.block < w.heap.size := by
  obtain ⟨A9, n9, c9, e9, l9, _, _, at9⟩ := h.rd
  rw [length_bytesV] at l9
  injection e9 with e1 e2 e3
  obtain ⟨g, o, hA9, hg, _⟩ := at9.out (by omega)
  rw [← e1, ha] at hA9
  injection hA9 with hA9
  subst hA9
  exact hg
/-- while the reference reads a param: the told param's block is w0.heap.size, the empty one's the next, the local one's l; its rows lie above l and below U -/
structure RS (w0 w : World) (U l p : Nat) (A0 A : Option Addr) (c : Nat) (s : RdV) (cs : List Value) (pv : ParV) : Prop where
  rd : Rd 64 w p A c s.1 s.2
  inv : Hid (RdInv s.1 s.2)
  len : s.1.length ≤ 140737488351232
  res : Blk w w0.heap.size 43 zcells
  non : Blk w (w0.heap.size + 1) 43 zcells
  loc : Blk w l 43 cs
  ins : pv.In (fun g => l < g ∧ g < U) w
  off : Off (fun i => i = p) w0 w
  hU : w0.heap.size + 1 ≤ l ∧ l < U ∧ U ≤ w.heap.size
  lp : p < w0.heap.size
  sa : SameA A0 A
  alt : Hid (0 < s.1.length → ∀ a, A = some a → a.block < w0.heap.size)
section
variable {w0 w w' : World} {U U' l p : Nat} {A0 A A' : Option Addr} {c c' : Nat} {s s' : RdV} {cs cs' : List Value} {pv pv' : ParV}
theorem RS.over {S : Nat → Prop} (h : RS w0 w U l p A0 A c s cs pv) (ho : Off S w w') (hS : ∀ i, S i → U ≤ i) : RS w0 w' U l p A0 A c s cs pv := by
  have hU := h.hU
  have hq := h.lp
  have hn : ∀ i, i < U → ¬ S i := fun i hi hs => by have := hS i hs; omega
  refine ⟨h.rd.off ho (hn p (by omega)) (fun h0 a ha => hn _ (by have := h.alt.out h0 a ha; omega)), h.inv, h.len, h.res.off ho (hn _ (by omega)), h.non.off ho (hn _ (by omega)), h.loc.off ho (hn _ (by omega)), h.ins.off ho (fun g hg _ => hn g hg.2) (fun g hg _ => hg), h.off.trans ho (fun i hi => .inr (by have := hS i hi; omega)), ⟨hU.1, hU.2.1, by have := ho.size; omega⟩, hq, h.sa, h.alt⟩
theorem RS.below (h : RS w0 w U l p A0 A c s cs pv) (hb : Below w.heap.size w w') : RS w0 w' U l p A0 A c s cs pv :=
  h.over (S := fun i => w.heap.size ≤ i) (Off.of_below hb (fun i hi => .inl hi)) (fun i hi => by have := h.hU.2.2; omega)
theorem RS.more (h : RS w0 w U l p A0 A c s cs pv) (hU : U ≤ U') (hw : U' ≤ w.heap.size) : RS w0 w U' l p A0 A c s cs pv := by
  have h1 := h.hU
  exact ⟨h.rd, h.inv, h.len, h.res, h.non, h.loc, h.ins.off (Off.refl (fun _ => False) w) (fun _ _ _ h => h) (fun g hg _ => ⟨hg.1, by omega⟩), h.off, ⟨h1.1, by omega, hw⟩, h.lp, h.sa, h.alt⟩
theorem RS.read (h : RS w0 w U l p A0 A c s cs pv) (hr : Rd 64 w' p A' c' s'.1 s'.2) (hi : RdInv s'.1 s'.2) (hA : ∀ a, A' = some a → ∃ b, A = some b ∧ b.block = a.block) (ho : Off (fun i => i = p) w w') (hl : s'.1.length ≤ s.1.length) : RS w0 w' U l p A0 A' c' s' cs pv := by
  have hU := h.hU
  have hq := h.lp
  refine ⟨hr, Lib.hid hi, Nat.le_trans hl h.len, h.res.off ho (by show ¬ _ = _; omega), h.non.off ho (by show ¬ _ = _; omega), h.loc.off ho (by show ¬ _ = _; omega), h.ins.off ho (fun g hg _ => by show ¬ _ = _; omega) (fun g hg _ => hg), h.off.trans ho (fun i hi => .inl hi), ⟨hU.1, hU.2.1, by have := ho.size; omega⟩, hq, h.sa.trans hA, Lib.hid (fun h0 a ha => ?_)⟩
  obtain ⟨b, hb, e⟩ := hA a ha
  rw [← e]
  exact h.alt.out (by omega) b hb
/-- the local param is made -/
theorem RS.start (h : RS w0 w U l p A0 A c s cs pv) : RS w0 (w.alloc (.cells #[.slice none 0 0, .int .i64 0, .slice none 0 0, .slice none 0 0, .slice none 0 0, .int .i64 0, .slice none 0 0] 43)) (w.heap.size + 1) w.heap.size p A0 A c s zcells zeroV := by
  have hU := h.hU
  have h2 := h.below ((Below.refl _ w).alloc (Nat.le_refl _) (.cells #[.slice none 0 0, .int .i64 0, .slice none 0 0, .slice none 0 0, .slice none 0 0, .int .i64 0, .slice none 0 0] 43))
  exact ⟨h2.rd, h2.inv, h2.len, h2.res, h2.non, Blk.fresh w 43 [.slice none 0 0, .int .i64 0, .slice none 0 0, .slice none 0 0, .slice none 0 0, .int .i64 0, .slice none 0 0], zeroV_in _ _, h2.off, ⟨by omega, by omega, by simp⟩, h2.lp, h2.sa, h2.alt⟩
/-- the local param is turned -/
theorem RS.turn (h : RS w0 w U l p A0 A c s cs pv) (hl : w0.heap.size + 1 < l) (ho : Off (fun i => i = l) w w') (hk : Blk w' l 43 cs') (hi : pv'.In (fun g => l < g ∧ g < U) w') : RS w0 w' U l p A0 A c s cs' pv' := by
  have hU := h.hU
  have hq := h.lp
  exact ⟨h.rd.off ho (by show ¬ _ = _; omega) (fun h0 a ha => by have := h.alt.out h0 a ha; show ¬ _ = _; omega), h.inv, h.len, h.res.off ho (by show ¬ _ = _; omega), h.non.off ho (by show ¬ _ = _; omega), hk, hi, h.off.trans ho (fun i hi => .inr (by omega)), ⟨hU.1, hU.2.1, by have := ho.size; omega⟩, hq, h.sa, h.alt⟩
/-- it is told -/
theorem RS.fin (h : RS w0 w U l p A0 A c s cs pv) (a1 a2 a3 a4 a5 a6 a7 : Value) :
    Blk (seven w w0.heap.size a1 a2 a3 a4 a5 a6 a7) w0.heap.size 43 [a1, a2, a3, a4, a5, a6, a7] ∧ Rd 64 (seven w w0.heap.size a1 a2 a3 a4 a5 a6 a7) p A c s.1 s.2 ∧
    pv.In (fun g => w0.heap.size ≤ g) (seven w w0.heap.size a1 a2 a3 a4 a5 a6 a7) ∧ Off (fun i => i = p) w0 (seven w w0.heap.size a1 a2 a3 a4 a5 a6 a7) := by
  have hU := h.hU
  have hq := h.lp
  obtain ⟨ho, hb⟩ := seven_ok h.res a1 a2 a3 a4 a5 a6 a7
  exact ⟨hb, h.rd.off ho (by show ¬ _ = _; omega) (fun h0 a ha => by have := h.alt.out h0 a ha; show ¬ _ = _; omega), h.ins.off ho (fun g hg _ => by show ¬ _ = _; omega) (fun g hg _ => by omega), h.off.trans ho (fun i hi => .inr (by omega))⟩
end
/-- the reference read a param -/
def ParQ (w : World) (p : Nat) (A : Option Addr) (t : PD) (en : Ending) (w' : World) : Prop :=
  ∃ A' c' pv s', en = .returned (.tuple #[.agg #[pv.wd, .int .i64 pv.c.we, pv.wx, pv.mv, pv.bd, .int .i64 pv.c.be, pv.bx], .int .i64 t.z.e]) ∧ ParV.In (fun g => w.heap.size ≤ g) w' pv ∧ (t.z.e = 0 → pv.c = t.p ∧ s' = t.z.s) ∧ Rd 64 w' p A' c' s'.1 s'.2 ∧ RdInv s'.1 s'.2 ∧ SameA A A' ∧ Off (fun i => i = p) w w'
def NewI8 (w : World) (xs : List Int) (en : Ending) (w' : World) : Prop :=
  ∃ A c, en = .returned (.slice A xs.length c) ∧ w'.ownsRow w.heap.size 81 1 (.slice A xs.length c) xs.length (ints .i8 xs) ∧ Below w.heap.size w w'
theorem i8s_snoc {bs : List UInt8} {k : Nat} {y : UInt8} (h : bs[k]? = some y) : ints .i8 (i8s (bs.take k)) ++ [.int .i8 (IntKind.i8.wrap (y.toNat : Int))] = ints .i8 (i8s (bs.take (k + 1))) := by
  unfold i8s
  rw [List.take_add_one, h, List.map_append, ← ints_append]
  rfl
set_option maxHeartbeats 1600000 in
theorem rsmalls_any (bs : List UInt8) (v : Value) (w : World) (B : Nat) (hB : B ≤ w.heap.size) (h : Reads w B v (bytesV bs)) (hlen : bs.length ≤ 1048576) :
    Calls Try.prog 63 #[v] w (NewI8 w (i8s bs)) := by
  obtain ⟨A, c, rfl, _, _⟩ := h.form
  rw [length_bytesV] at h
  have HR := Lib.hid h
  obtain ⟨n, hn⟩ : ∃ n, bs.length = n := ⟨_, rfl⟩
  rw [length_bytesV]
  rw [hn] at HR hlen ⊢
  have HN := Lib.hid hn
  clear h hn
  go_enter Try.func63, Try.ntmps63
  go_wp2
  go_loopw [3, 8] (fun v i wr => ∃ (k : Nat) (A' : Option Addr) (c' : Nat), k ≤ n ∧ i = .int .i64 k ∧ v = .slice A' k c' ∧ Hid (wr.ownsRow w.heap.size 81 1 (.slice A' k c') k (ints .i8 (i8s (bs.take k)))) ∧ Hid (Below w.heap.size w wr)) (fun _ i _ => n - (intOf i).toNat)
  case atStart => exact ⟨0, none, 0, by omega, rfl, rfl, Lib.hid (World.ownsRow_nil _ _ _ _), Lib.hid (Below.refl _ _)⟩
  case round =>
    obtain ⟨k, A', c', hk, rfl, rfl, hown, hbel⟩ := hrel
    by_cases hlt : k < n
    · obtain ⟨A', n', c', e', _, _, _, hat⟩ := HR.out.below (hbel.out.mono hB)
      injection e' with e1 e2 e3
      subst e1 e2 e3
      obtain ⟨g, o, rfl, hg, hx⟩ := hat.out (by omega)
      have hl := HN.out
      have c1 := hx k _ (bytesV_at bs k (by omega))
      obtain ⟨y, hy⟩ : ∃ y, bs[k] = y := ⟨_, rfl⟩
      rw [hy] at c1
      have HY := Lib.hid (i8s_snoc (bs := bs) (k := k) (y := y) (by rw [List.getElem?_eq_getElem (by omega), hy]))
      have i1 : (0 : Int) ≤ (k : Int) := by omega
      have i2 : (k : Int) < (n : Int) := by omega
      have hbs := hbel.out.size
      clear hat hx hl hy HR
      go_wp2_with (at_builtin; refine wpList_extend elem_i8k _ rfl (.tmp 12) (.tmp 15) rfl w.heap.size k _ _ rfl (hown.out.alloc _) _ _ [.int .i8 (IntKind.i8.wrap (y.toNat : Int))] rfl (Reads.one_ wr _ _) (by simp [Value.oneCell']) (by simp only [List.length_cons, List.length_nil, maxLen]; omega) (by simp only [List.length_cons, List.length_nil]; omega) (by rw [World.size_alloc]; omega) ?_; intro A9 c9 w9 hown9 hg9 hf9; simp only [List.length_cons, List.length_nil, Nat.zero_add] at hown9 ⊢)
      rw [HY.out] at hown9
      have HB9 := Lib.hid ((hbel.out.alloc hbs _).grown hg9 (by rw [World.size_alloc]; omega) (fun k hk => (hown.out.lt k hk).1))
      have HO9 := Lib.hid hown9
      clear hown9 hg9 hf9
      go_roundw
      case rel => exact ⟨k + 1, A9, c9, by omega, by go_num, rfl, HO9, HB9⟩
      case measure => simp [intOf]; omega
    · obtain rfl : k = n := by omega
      have HL8 : Hid ((i8s bs).length = k) := Lib.hid (by unfold i8s; rw [List.length_map, HN.out])
      go_wp2
      go_ret
      refine ⟨A', c', ?_, ?_, hbel.out⟩
      · rw [HL8.out]; rfl
      · have := hown.out
        rw [List.take_of_length_le (by have := HN.out; omega)] at this
        rw [HL8.out]
        exact this
end Go.Proofs.Ytcjpibdgnjncmaa
