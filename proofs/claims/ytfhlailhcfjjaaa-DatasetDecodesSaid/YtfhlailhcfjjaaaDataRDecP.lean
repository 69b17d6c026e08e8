/- What the reference's DecodeData reads; pedagogueref18.smalls. -/
import Derived.Test.YtfhlailhcfjjaaaDataRef3
import Derived.Test.YtfhlailhcfjjaaaDataInvP
namespace Go.Proofs.Ytfhlailhcfjjaaa
open Go.RowKit
set_option linter.unusedVariables false
set_option linter.unusedSimpArgs false

/-- the memory of Decode: r the told dataset's block (still nothing), q the dataset's, p the reader's; all of it below G -/
structure DecR (w0 w : World) (G r q p : Nat) (A : Option Addr) (c : Nat) (s : RdV) (ds : List Value) (v : Value) (xs : List ExV) : Prop where
  bel : Below w0.heap.size w0 w
  rd : Rd 69 w p A c s.1 s.2
  res : Blk w r 33 [.int .i64 0, .int .i64 0, .int .i64 0, .int .i64 0, .int .i64 0, .slice none 0 0]
  blk : Blk w q 33 (ds ++ [v])
  own : w.ownsRow w0.heap.size 45 2 v xs.length (xs.flatMap ExV.cells)
  exs : ∀ e ∈ xs, w.ownsRow w0.heap.size 52 1 e.dv e.data.length (ints .i8 e.data) ∧ ∀ k, e.dv.ownBlock = some k → k < G ∧ k ≠ p ∧ k ≠ q ∧ v.ownBlock ≠ some k ∧ k ≠ r
  lo : w0.heap.size ≤ r ∧ w0.heap.size ≤ q ∧ w0.heap.size ≤ p
  hi : r < G ∧ q < G ∧ p < G ∧ G ≤ w.heap.size ∧ ∀ k, v.ownBlock = some k → k < G
  ap : r ≠ q ∧ r ≠ p ∧ q ≠ p
  vb : v.ownBlock ≠ some r ∧ v.ownBlock ≠ some q ∧ v.ownBlock ≠ some p
  lA : 0 < s.1.length → ∀ a, A = some a → a.block < G ∧ a.block ≠ q ∧ v.ownBlock ≠ some a.block
section
variable {w0 w w' : World} {G G' r q p : Nat} {A A' : Option Addr} {c c' : Nat} {s s' : RdV} {ds : List Value} {v v' : Value} {xs : List ExV}
/-- what lies above G may turn -/
theorem DecR.aside {S : Nat → Prop} (h : DecR w0 w G r q p A c s ds v xs) (ho : Off S w w') (hS : ∀ i, S i → G ≤ i) : DecR w0 w' G r q p A c s ds v xs := by
  have hsz := h.bel.size
  have hlo := h.lo
  have hhi := h.hi
  have hn : ∀ i, i < G → ¬ S i := fun i hi hs => by have := hS i hs; omega
  refine ⟨h.bel.trans (ho.below hsz (fun i hi => by have := hS i hi; omega)), h.rd.off ho (hn p hhi.2.2.1) (fun h0 a ha => hn _ (h.lA h0 a ha).1), h.res.off ho (hn r hhi.1), h.blk.off ho (hn q hhi.2.1), own_off h.own ho (fun k hk => hn k (hhi.2.2.2.2 k hk)), fun e he => ⟨own_off (h.exs e he).1 ho (fun k hk => hn k ((h.exs e he).2 k hk).1), (h.exs e he).2⟩, hlo, ⟨hhi.1, hhi.2.1, hhi.2.2.1, ?_, hhi.2.2.2.2⟩, h.ap, h.vb, h.lA⟩
  have := ho.size
  omega
theorem DecR.below (h : DecR w0 w G r q p A c s ds v xs) (hb : Below w.heap.size w w') : DecR w0 w' G r q p A c s ds v xs :=
  h.aside (S := fun i => w.heap.size ≤ i) (Off.of_below hb (fun i hi => .inl hi)) (fun i hi => by have := h.hi.2.2.2.1; omega)
theorem DecR.more (h : DecR w0 w G r q p A c s ds v xs) (hG : G ≤ G') (hw : G' ≤ w.heap.size) : DecR w0 w G' r q p A c s ds v xs := by
  have hhi := h.hi
  exact ⟨h.bel, h.rd, h.res, h.blk, h.own, fun e he => ⟨(h.exs e he).1, fun k hk => by have := (h.exs e he).2 k hk; exact ⟨by omega, this.2⟩⟩, h.lo, ⟨by omega, by omega, by omega, hw, fun k hk => by have := hhi.2.2.2.2 k hk; omega⟩, h.ap, h.vb, fun h0 a ha => by have := h.lA h0 a ha; exact ⟨by omega, this.2⟩⟩
theorem DecR.alloc (h : DecR w0 w G r q p A c s ds v xs) (o : Obj) : DecR w0 (w.alloc o) G r q p A c s ds v xs := h.below ((Below.refl _ w).alloc (Nat.le_refl _) o)
theorem DecR.drew (h : DecR w0 w G r q p A c s ds v xs) : DecR w0 w.drew G r q p A c s ds v xs := h.below (Below.refl _ w).drew
/-- the reader goes on -/
theorem DecR.read (h : DecR w0 w G r q p A c s ds v xs) (hr : Rd 69 w' p A' c' s'.1 s'.2) (hA : ∀ a, A' = some a → ∃ b, A = some b ∧ b.block = a.block) (ho : Off (fun i => i = p) w w') (hl : s'.1.length ≤ s.1.length) : DecR w0 w' G r q p A' c' s' ds v xs := by
  have hsz := h.bel.size
  have hlo := h.lo
  have hhi := h.hi
  have hap := h.ap
  refine ⟨h.bel.trans (ho.below hsz (fun i hi => by omega)), hr, h.res.off ho hap.2.1, h.blk.off ho hap.2.2, own_off h.own ho (fun k hk e => h.vb.2.2 (by rw [hk, e])), fun e he => ⟨own_off (h.exs e he).1 ho (fun k hk => ((h.exs e he).2 k hk).2.1), (h.exs e he).2⟩, hlo, ⟨hhi.1, hhi.2.1, hhi.2.2.1, ?_, hhi.2.2.2.2⟩, hap, h.vb, fun h0 a ha => ?_⟩
  · have := ho.size; omega
  · obtain ⟨b, hb, e⟩ := hA a ha
    rw [← e]
    exact h.lA (by omega) b hb
/-- an example is put behind -/
theorem DecR.push (h : DecR w0 w G r q p A c s ds v xs) {w1 : World} {x : ExV} (hd : ds.length = 5) (hx : w.ownsRow w0.heap.size 52 1 x.dv x.data.length (ints .i8 x.data)) (hx2 : ∀ k, x.dv.ownBlock = some k → G ≤ k)
    (ho : w1.ownsRow w0.heap.size 45 2 v' (xs ++ [x]).length ((xs ++ [x]).flatMap ExV.cells)) (hg : w.grownBy w1 v.ownBlock) (hf : Fresh w v v') :
    DecR w0 (w1.setCell ⟨q, 5, none⟩ v') w1.heap.size r q p A c s ds v' (xs ++ [x]) := by
  have hsz := h.bel.size
  have hlo := h.lo
  have hhi := h.hi
  have hap := h.ap
  have hvb := h.vb
  have hof : Off (fun i => i = q ∨ v.ownBlock = some i) w (w1.setCell ⟨q, 5, none⟩ v') := ((Off.refl _ w).grown hg (fun k hk => .inl (.inr hk))).setCell (p := ⟨q, 5, none⟩) (.inl (.inl rfl)) _
  have hg1 : w.heap.size ≤ w1.heap.size := hg.size
  have hv' : ∀ k, v'.ownBlock = some k → k < G → v.ownBlock = some k := fun k hk hlt => by
    rcases hf.off hk with e | e
    · exact e
    · omega
  have hlt' : ∀ k, v'.ownBlock = some k → k < w1.heap.size := fun k hk => (ho.lt k hk).2
  have hn : ∀ i, i ≠ q → v.ownBlock ≠ some i → ¬ (i = q ∨ v.ownBlock = some i) := fun i h1 h2 h3 => by rcases h3 with e | e; exact h1 e; exact h2 e
  refine ⟨h.bel.trans (hof.below hsz (fun i hi => ?_)), h.rd.off hof (hn p (Ne.symm hap.2.2) hvb.2.2) (fun h0 a ha => hn _ (h.lA h0 a ha).2.1 (h.lA h0 a ha).2.2), h.res.off hof (hn r hap.1 hvb.1), ?_, ?_, fun e he => ?_, hlo, ⟨by omega, by omega, by omega, by simp [World.setCell], hlt'⟩, hap, ⟨fun e => hvb.1 (hv' _ e (by omega)), fun e => hvb.2.1 (hv' _ e (by omega)), fun e => hvb.2.2 (hv' _ e (by omega))⟩, fun h0 a ha => ?_⟩
  · rcases hi with e | e
    · omega
    · exact (h.own.lt i e).1
  · have hk1 := h.blk.grown hg (Ne.symm hvb.2.1)
    have hk2 := hk1.put 5 v'
    have e : (ds ++ [v]).set 5 v' = ds ++ [v'] := by
      match ds, hd with
      | [_, _, _, _, _], _ => rfl
    rwa [e] at hk2
  · exact own_off ho ((Off.refl (fun i => i = q) w1).setCell (p := ⟨q, 5, none⟩) (.inl rfl) v') (fun k hk e => hvb.2.1 (hv' _ (by rw [hk, e]) (by omega)))
  · rw [List.mem_append, List.mem_singleton] at he
    rcases he with he | rfl
    · obtain ⟨h1, h2⟩ := h.exs e he
      refine ⟨own_off h1 hof (fun k hk => ?_), fun k hk => ?_⟩
      · exact hn k (h2 k hk).2.2.1 (h2 k hk).2.2.2.1
      · have := h2 k hk
        exact ⟨by omega, this.2.1, this.2.2.1, fun e => this.2.2.2.1 (hv' _ e (by omega)), this.2.2.2.2⟩
    · refine ⟨own_off hx hof (fun k hk => ?_), fun k hk => ?_⟩
      · have := hx2 k hk
        exact hn k (by omega) (fun e => by have := hhi.2.2.2.2 k e; omega)
      · have h1 := hx2 k hk
        have h2 := (hx.lt k hk).2
        refine ⟨by omega, by omega, by omega, fun e => ?_, by omega⟩
        rcases hf.off e with e | e
        · have := hhi.2.2.2.2 k e; omega
        · omega
  · have := h.lA h0 a ha
    exact ⟨by omega, this.2.1, fun e => this.2.2 (hv' _ e (by omega))⟩
/-- the memory ahead of the dataset -/
structure DecQ (w0 w : World) (r p : Nat) (A : Option Addr) (c : Nat) (s : RdV) : Prop where
  bel : Below w0.heap.size w0 w
  rd : Rd 69 w p A c s.1 s.2
  res : Blk w r 33 [.int .i64 0, .int .i64 0, .int .i64 0, .int .i64 0, .int .i64 0, .slice none 0 0]
  lo : w0.heap.size ≤ r ∧ w0.heap.size ≤ p
  ap : r ≠ p
theorem DecQ.read (h : DecQ w0 w r p A c s) (hr : Rd 69 w' p A' c' s'.1 s'.2) (ho : Off (fun i => i = p) w w') : DecQ w0 w' r p A' c' s' := by
  have hlo := h.lo
  exact ⟨h.bel.trans (ho.below h.bel.size (fun i hi => by omega)), hr, h.res.off ho h.ap, hlo, h.ap⟩
theorem DecQ.start (h : DecQ w0 w r p A c s) (ds : List Value) (cs : Array Value) (hc : cs.toList = ds ++ [.slice none 0 0]) : DecR w0 (w.alloc (.cells cs 33)) (w.heap.size + 1) r w.heap.size p A c s ds (.slice none 0 0) [] := by
  have hlo := h.lo
  have hap := h.ap
  have hsz := h.bel.size
  have h1 := h.res.lt
  have h2 := h.rd.blk.lt
  have hb := (Below.refl w.heap.size w).alloc (Nat.le_refl _) (.cells cs 33)
  refine ⟨h.bel.trans (hb.mono hsz), h.rd.below hb, h.res.below hb h1, ?_, World.ownsRow_nil _ _ _ _, fun e he => absurd he (by simp), ⟨hlo.1, hsz, hlo.2⟩, ⟨by omega, by omega, by omega, by simp, by simp [Value.ownBlock]⟩, ⟨by omega, hap, by omega⟩, by simp [Value.ownBlock], fun h0 a ha => ?_⟩
  · have := Blk.fresh w 33 (ds ++ [.slice none 0 0])
    rw [← hc] at this ⊢
    simpa using this
  · obtain ⟨A9, n9, c9, e9, l9, _, _, at9⟩ := h.rd.rd
    rw [length_bytesV] at l9
    injection e9 with e1 e2 e3
    obtain ⟨g, o, hA9, hg, _⟩ := at9.out (by omega)
    rw [← e1, ha] at hA9
    injection hA9 with hA9
    subst hA9
    exact ⟨by simp only; omega, by simp only; omega, by simp [Value.ownBlock]⟩
end
theorem rds_keep {s : RdV} {n : Int} (h : s.2 ≠ 0) : (rds s n).2 = s.2 := by
  unfold rds takeErr
  rw [if_pos (.inl h)]
theorem rds_err {s : RdV} {n : Int} (h0 : s.2 = 0) (h : (rds s n).2 ≠ 0) : (rds s n).2 = 4 := by
  unfold rds takeErr at h ⊢
  simp only at h ⊢
  by_cases h1 : s.2 ≠ 0 ∨ n ≤ 0
  · rw [if_pos h1] at h; exact absurd h0 h
  · rw [if_neg h1] at h ⊢
    by_cases h2 : (s.1.length : Int) < n
    · rw [if_pos h2]
    · rw [if_neg h2] at h; exact absurd h0 h
theorem endErr_of {l : List UInt8} {e : Int} (h : e ≠ 0) : endErr l e = e := by
  unfold endErr
  rw [if_neg (by omega)]
def noneD : DatV := ⟨0, 0, 0, 0, 0, .slice none 0 0, []⟩
theorem rds_inv {s : RdV} {n : Int} (h : RdInv s.1 s.2) : RdInv (rds s n).1 (rds s n).2 := takeInv h
theorem decode_fail {bs : List UInt8} (hb : badBegin bs = false) (he : decE (decHead bs) ≠ 0) : decode bs = (decE (decHead bs), noneD, []) := by
  unfold decode
  rw [hb, if_neg (by decide)]
  have h1 : decZ (decHead bs) = ⟨decE (decHead bs), (decHead bs).2.2, []⟩ := by
    unfold decZ
    exact decRun_ne (by exact he) _
  rw [h1]
  unfold decEnd
  simp only
  rw [if_neg he, if_neg he]
  rfl
theorem decE_short {bs : List UInt8} (h : (decHead bs).2.2.2 ≠ 0) (hi : RdInv (decHead bs).2.2.1 (decHead bs).2.2.2) : decE (decHead bs) = 4 := by
  rcases hi with h1 | ⟨h1, h2⟩
  · exact absurd h1 h
  · unfold decE
    rw [endErr_of h, h1]
    rfl
theorem decE_bad {bs : List UInt8} (h : (decHead bs).2.2.2 = 0) (hh : headI (decHead bs).1 (decHead bs).2.1 = false) : decE (decHead bs) = 5 := by
  unfold decE
  rw [h, if_pos (by unfold endErr; split; exact .inr rfl; exact .inl rfl), hh]
  rfl
theorem decE_good {bs : List UInt8} (h : (decHead bs).2.2.2 = 0) (hh : headI (decHead bs).1 (decHead bs).2.1 = true) : decE (decHead bs) = 0 := by
  unfold decE
  rw [h, if_pos (by unfold endErr; split; exact .inr rfl; exact .inl rfl), hh]
  rfl
theorem decode_short4 {bs : List UInt8} (h : (rds (bs, 0) 4).2 ≠ 0) : decode bs = (4, noneD, []) := by
  have h4 := rds_err rfl h
  have hb : badBegin bs = false := by
    unfold badBegin
    have : rdt (bs, 0) 4 = [] := by
      unfold rds takeErr at h
      unfold rdt takeOut
      simp only at h ⊢
      rw [if_neg (by omega)] at h ⊢
      by_cases h2 : (bs.length : Int) < 4
      · rw [if_pos h2]
      · rw [if_neg h2] at h; exact absurd rfl h
    rw [this]
    rfl
  have hs : (decHead bs).2.2.2 = 4 := by
    unfold decHead
    simp only
    have k4 : ∀ (s : RdV) (n : Int), s.2 = 4 → (rds s n).2 = 4 := fun s n hs => by rw [rds_keep (by rw [hs]; decide), hs]
    exact k4 _ _ (k4 _ _ (k4 _ _ (k4 _ _ (k4 _ _ (k4 _ _ h4)))))
  have hE : decE (decHead bs) = 4 := by
    unfold decE
    rw [hs, endErr_of (by decide)]
    rfl
  rw [decode_fail hb (by rw [hE]; decide), hE]
theorem decode_head4 {bs : List UInt8} (hb : badBegin bs = false) (h : (decHead bs).2.2.2 ≠ 0) (hi : RdInv (decHead bs).2.2.1 (decHead bs).2.2.2) : decode bs = (4, noneD, []) := by
  rw [decode_fail hb (by rw [decE_short h hi]; decide), decE_short h hi]
theorem decode_head5 {bs : List UInt8} (hb : badBegin bs = false) (h : (decHead bs).2.2.2 = 0) (hh : headI (decHead bs).1 (decHead bs).2.1 = false) : decode bs = (5, noneD, []) := by
  rw [decode_fail hb (by rw [decE_bad h hh]; decide), decE_bad h hh]
theorem decode_end {bs : List UInt8} {z : DSt} (hb : badBegin bs = false) (hz : decZ (decHead bs) = z) (he : decEnd z ≠ 0) : decode bs = (decEnd z, noneD, []) := by
  unfold decode
  rw [hb, if_neg (by decide), hz, if_neg he]
  rfl
theorem decode_all {bs : List UInt8} {z : DSt} (hb : badBegin bs = false) (hz : decZ (decHead bs) = z) (he : decEnd z = 0) : decode bs = (0, (decHead bs).1, z.xs) := by
  unfold decode
  rw [hb, if_neg (by decide), hz, if_pos he]
def NewI8 (w : World) (xs : List Int) (en : Ending) (w' : World) : Prop :=
  ∃ A c, en = .returned (.slice A xs.length c) ∧ w'.ownsRow w.heap.size 52 1 (.slice A xs.length c) xs.length (ints .i8 xs) ∧ Below w.heap.size w w'
theorem i8s_snoc {bs : List UInt8} {k : Nat} {y : UInt8} (h : bs[k]? = some y) : ints .i8 (i8s (bs.take k)) ++ [.int .i8 (IntKind.i8.wrap (y.toNat : Int))] = ints .i8 (i8s (bs.take (k + 1))) := by
  unfold i8s
  rw [List.take_add_one, h, List.map_append, ← ints_append]
  rfl
set_option maxHeartbeats 1600000 in
theorem rsmalls_any (bs : List UInt8) (v : Value) (w : World) (B : Nat) (hB : B ≤ w.heap.size) (h : Reads w B v (bytesV bs)) (hlen : bs.length ≤ 1048576) :
    Calls Try.prog 47 #[v] w (NewI8 w (i8s bs)) := by
  obtain ⟨A, c, rfl, _, _⟩ := h.form
  rw [length_bytesV] at h
  have HR := Lib.hid h
  obtain ⟨n, hn⟩ : ∃ n, bs.length = n := ⟨_, rfl⟩
  rw [length_bytesV]
  rw [hn] at HR hlen ⊢
  have HN := Lib.hid hn
  clear h hn
  go_enter Try.func47, Try.ntmps47
  go_wp2
  go_loopw [3, 8] (fun v i wr => ∃ (k : Nat) (A' : Option Addr) (c' : Nat), k ≤ n ∧ i = .int .i64 k ∧ v = .slice A' k c' ∧ Hid (wr.ownsRow w.heap.size 52 1 (.slice A' k c') k (ints .i8 (i8s (bs.take k)))) ∧ Hid (Below w.heap.size w wr)) (fun _ i _ => n - (intOf i).toNat)
  case atStart => exact ⟨0, none, 0, by omega, rfl, rfl, Lib.hid (World.ownsRow_nil _ _ _ _), Lib.hid (Below.refl _ _)⟩
  case round =>
    obtain ⟨k, A', c', hk, rfl, rfl, hown, hbel⟩ := hrel
    by_cases hlt : k < n
    · obtain ⟨A', n', c', e', _, _, _, hat⟩ := HR.out.below (hbel.out.mono hB)
      injection e' with e1 e2 e3
      subst e1 e2 e3
      obtain ⟨g, o, rfl, hg, hx⟩ := hat.out (by omega)
      have hl := HN.out
      have c1 := hx k _ (bytesV_at bs k (by omega))
      obtain ⟨y, hy⟩ : ∃ y, bs[k] = y := ⟨_, rfl⟩
      rw [hy] at c1
      have HY := Lib.hid (i8s_snoc (bs := bs) (k := k) (y := y) (by rw [List.getElem?_eq_getElem (by omega), hy]))
      have i1 : (0 : Int) ≤ (k : Int) := by omega
      have i2 : (k : Int) < (n : Int) := by omega
      have hbs := hbel.out.size
      clear hat hx hl hy HR
      go_wp2_with (at_builtin; refine wpList_extend elem_i8d _ rfl (.tmp 12) (.tmp 15) rfl w.heap.size k _ _ rfl (hown.out.alloc _) _ _ [.int .i8 (IntKind.i8.wrap (y.toNat : Int))] rfl (Reads.one_ wr _ _) (by simp [Value.oneCell']) (by simp only [List.length_cons, List.length_nil, maxLen]; omega) (by simp only [List.length_cons, List.length_nil]; omega) (by rw [World.size_alloc]; omega) ?_; intro A9 c9 w9 hown9 hg9 hf9; simp only [List.length_cons, List.length_nil, Nat.zero_add] at hown9 ⊢)
      rw [HY.out] at hown9
      have HB9 := Lib.hid ((hbel.out.alloc hbs _).grown hg9 (by rw [World.size_alloc]; omega) (fun k hk => (hown.out.lt k hk).1))
      have HO9 := Lib.hid hown9
      clear hown9 hg9 hf9
      go_roundw
      case rel => exact ⟨k + 1, A9, c9, by omega, by go_num, rfl, HO9, HB9⟩
      case measure => simp [intOf]; omega
    · obtain rfl : k = n := by omega
      have HL8 : Hid ((i8s bs).length = k) := Lib.hid (by unfold i8s; rw [List.length_map, HN.out])
      go_wp2
      go_ret
      refine ⟨A', c', ?_, ?_, hbel.out⟩
      · rw [HL8.out]; rfl
      · have := hown.out
        rw [List.take_of_length_le (by have := HN.out; omega)] at this
        rw [HL8.out]
        exact this
end Go.Proofs.Ytfhlailhcfjjaaa
