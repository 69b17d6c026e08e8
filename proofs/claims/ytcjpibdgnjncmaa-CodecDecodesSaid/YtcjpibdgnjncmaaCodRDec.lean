/- Contract of pedagogueref24.Decode. -/
import Derived.Test.YtcjpibdgnjncmaaCodRDec2
import Derived.Test.YtcjpibdgnjncmaaCodDec3
namespace Go.Proofs.Ytcjpibdgnjncmaa
open Go.RowKit
set_option linter.unusedVariables false
set_option linter.unusedSimpArgs false

/-- the reference's Decode: the told state's block is w0.heap.size, the empty one's the next -/
structure DR (w0 w : World) (p : Nat) (A : Option Addr) (c : Nat) (s : RdV) : Prop where
  rd : Rd 64 w p A c s.1 s.2
  inv : Hid (RdInv s.1 s.2)
  len : s.1.length ≤ 140737488351232
  res : Blk w w0.heap.size 25 szcells
  non : Blk w (w0.heap.size + 1) 25 szcells
  bel : Below w0.heap.size w0 w
  lo : w0.heap.size + 1 < p
  lA : Hid (0 < s.1.length → ∀ a, A = some a → a.block < w0.heap.size)
/-- .. with the state at g and its params -/
structure DQ (w0 w : World) (p g : Nat) (A : Option Addr) (c : Nat) (s : RdV) (sd sp : Int) (u : Value) (ps : List ParV) : Prop where
  dr : DR w0 w p A c s
  lg : p < g
  st : Blk w g 25 [.int .u64 sd, .int .i64 sp, u]
  own : w.ownsRow (g + 1) 43 7 u ps.length (ps.flatMap ParV.cells)
  ins : Hid (∀ x ∈ ps, x.In (fun i => g < i ∧ u.ownBlock ≠ some i) w)
section
variable {w0 w w' w1 : World} {p g : Nat} {A A' : Option Addr} {c c' : Nat} {s s' : RdV} {sd sp : Int} {u u' : Value} {ps : List ParV}
theorem DR.over {S : Nat → Prop} (h : DR w0 w p A c s) (ho : Off S w w') (hS : ∀ i, S i → p < i) : DR w0 w' p A c s := by
  have hl := h.lo
  have hn : ∀ i, i ≤ p → ¬ S i := fun i hi hs => by have := hS i hs; omega
  exact ⟨h.rd.off ho (hn p (by omega)) (fun h0 a ha => hn _ (by have := h.lA.out h0 a ha; omega)), h.inv, h.len, h.res.off ho (hn _ (by omega)), h.non.off ho (hn _ (by omega)), h.bel.trans (ho.below h.bel.size (fun i hi => by have := hS i hi; omega)), hl, h.lA⟩
theorem DR.below (h : DR w0 w p A c s) (hb : Below w.heap.size w w') : DR w0 w' p A c s :=
  h.over (S := fun i => w.heap.size ≤ i) (Off.of_below hb (fun i hi => .inl hi)) (fun i hi => by have := h.rd.blk.lt; omega)
theorem DR.read (h : DR w0 w p A c s) (hr : Rd 64 w' p A' c' s'.1 s'.2) (hi : RdInv s'.1 s'.2) (hA : ∀ a, A' = some a → ∃ b, A = some b ∧ b.block = a.block) (ho : Off (fun i => i = p) w w') (hl : s'.1.length ≤ s.1.length) : DR w0 w' p A' c' s' := by
  have hlo := h.lo
  refine ⟨hr, Lib.hid hi, Nat.le_trans hl h.len, h.res.off ho (by show ¬ _ = _; omega), h.non.off ho (by show ¬ _ = _; omega), h.bel.trans (ho.below h.bel.size (fun i hi => by omega)), hlo, Lib.hid (fun h0 a ha => ?_)⟩
  obtain ⟨b, hb, e⟩ := hA a ha
  rw [← e]
  exact h.lA.out (by omega) b hb
theorem DR.start (h : DR w0 w p A c s) (sd sp : Int) : DQ w0 (w.alloc (.cells #[.int .u64 sd, .int .i64 sp, .slice none 0 0] 25)) p w.heap.size A c s sd sp (.slice none 0 0) [] :=
  ⟨h.below ((Below.refl _ w).alloc (Nat.le_refl _) _), h.rd.blk.lt, Blk.fresh w 25 [.int .u64 sd, .int .i64 sp, .slice none 0 0], World.ownsRow_nil _ _ _ _, Lib.hid (by simp)⟩
theorem DQ.below (h : DQ w0 w p g A c s sd sp u ps) (hb : Below w.heap.size w w') : DQ w0 w' p g A c s sd sp u ps := by
  have ho : Off (fun i => w.heap.size ≤ i) w w' := Off.of_below hb (fun i hi => .inl hi)
  exact ⟨h.dr.below hb, h.lg, h.st.below hb h.st.lt, own_off h.own ho (fun k hk => by have := (h.own.lt k hk).2; omega), Lib.hid (fun x hx => (h.ins.out x hx).off ho (fun i _ hi => by omega) (fun i hi _ => hi))⟩
theorem DQ.read (h : DQ w0 w p g A c s sd sp u ps) (hr : Rd 64 w' p A' c' s'.1 s'.2) (hi : RdInv s'.1 s'.2) (hA : ∀ a, A' = some a → ∃ b, A = some b ∧ b.block = a.block) (ho : Off (fun i => i = p) w w') (hl : s'.1.length ≤ s.1.length) : DQ w0 w' p g A' c' s' sd sp u ps := by
  have hlg := h.lg
  exact ⟨h.dr.read hr hi hA ho hl, hlg, h.st.off ho (by show ¬ _ = _; omega), own_off h.own ho (fun k hk => by have := (h.own.lt k hk).1; show ¬ _ = _; omega), Lib.hid (fun x hx => (h.ins.out x hx).off ho (fun i hi _ => by have := hi.1; show ¬ _ = _; omega) (fun i hi _ => hi))⟩
/-- the step is put -/
theorem DQ.step (h : DQ w0 w p g A c s sd sp u ps) (sp' : Int) : DQ w0 (w.setCell ⟨g, 1, none⟩ (.int .i64 sp')) p g A c s sd sp' u ps := by
  have ho : Off (fun i => i = g) w (w.setCell ⟨g, 1, none⟩ (.int .i64 sp')) := (Off.refl (fun i => i = g) w).setCell (p := ⟨g, 1, none⟩) (.inl rfl) _
  exact ⟨h.dr.over ho (fun i hi => by have := h.lg; omega), h.lg, h.st.put 1 _, own_off h.own ho (fun k hk => by have := (h.own.lt k hk).1; show ¬ _ = _; omega), Lib.hid (fun x hx => (h.ins.out x hx).off ho (fun i hi _ => by have := hi.1; show ¬ _ = _; omega) (fun i hi _ => hi))⟩
/-- a param is put behind -/
theorem DQ.push (h : DQ w0 w p g A c s sd sp u ps) {x : ParV} {G : Nat} (hx : x.In (fun i => G ≤ i) w) (hG : g < G ∧ ∀ k, u.ownBlock = some k → k < G)
    (ho : w1.ownsRow (g + 1) 43 7 u' (ps ++ [x]).length ((ps ++ [x]).flatMap ParV.cells)) (hg : w.grownBy w1 u.ownBlock) (hf : Fresh w u u') :
    DQ w0 (w1.setCell ⟨g, 2, none⟩ u') p g A c s sd sp u' (ps ++ [x]) := by
  have hlg := h.lg
  have h4 := h.st.lt
  have hul : ∀ k, u.ownBlock = some k → g < k := fun k hk => (h.own.lt k hk).1
  have hof : Off (fun i => i = g ∨ u.ownBlock = some i) w (w1.setCell ⟨g, 2, none⟩ u') := ((Off.refl _ w).grown hg (fun k hk => .inl (.inr hk))).setCell (p := ⟨g, 2, none⟩) (.inl (.inl rfl)) _
  have hv' : ∀ k, u'.ownBlock = some k → k < w.heap.size → u.ownBlock = some k := fun k hk hlt => by
    rcases hf.off hk with e | e
    · exact e
    · omega
  have hS : ∀ i, i < w.heap.size → u.ownBlock ≠ some i → u'.ownBlock ≠ some i := fun i hi hu he => hu (hv' i he hi)
  refine ⟨h.dr.over hof (fun i hi => by rcases hi with e | e; omega; have := hul i e; omega), hlg, (h.st.grown hg (fun e => by have := hul g e.symm; omega)).put 2 u', own_off ho ((Off.refl (fun i => i = g) w1).setCell (p := ⟨g, 2, none⟩) (.inl rfl) u') (fun k hk e => by have := (ho.lt k hk).1; omega), Lib.hid (fun y hy => ?_)⟩
  rcases List.mem_append.1 hy with hy | hy
  · exact (h.ins.out y hy).off hof (fun i hi _ hj => by rcases hj with e | e; (have := hi.1; omega); exact hi.2 e) (fun i hi hl => ⟨hi.1, hS i hl hi.2⟩)
  · rw [List.mem_singleton.1 hy]
    have hne : ∀ i, G ≤ i → u.ownBlock ≠ some i := fun i hi e => by have := hG.2 i e; omega
    exact hx.off hof (fun i hi _ hj => by rcases hj with e | e; omega; exact hne i hi e) (fun i hi hl => ⟨by omega, hS i hl (hne i hi)⟩)
end
/-- enough for an error's end -/
structure DE (w0 w : World) : Prop where
  res : Blk w w0.heap.size 25 szcells
  non : Blk w (w0.heap.size + 1) 25 szcells
  bel : Below w0.heap.size w0 w
theorem DR.ends {w0 w w' : World} {p : Nat} {A : Option Addr} {c : Nat} {s : RdV} (h : DR w0 w p A c s) (ho : Off (fun i => i = p) w w') : DE w0 w' := by
  have hlo := h.lo
  exact ⟨h.res.off ho (by show ¬ _ = _; omega), h.non.off ho (by show ¬ _ = _; omega), h.bel.trans (ho.below h.bel.size (fun i hi => by omega))⟩
theorem DE.alloc {w0 w : World} (h : DE w0 w) (o : Obj) : DE w0 (w.alloc o) := ⟨h.res.alloc o, h.non.alloc o, h.bel.alloc h.bel.size o⟩
theorem chk_keep {e : Int} {s : RdV} {ok : Bool} (h : e ≠ 0) : chk ⟨e, s⟩ ok = ⟨e, s⟩ := by
  unfold chk
  rw [if_pos h]
theorem chk_e {z : CS} {ok : Bool} {e : Int} (h : z.e = e) (h0 : e ≠ 0) : (chk z ok).e = e := by
  unfold chk
  dsimp only
  rw [if_pos (by rw [h]; exact h0), h]
theorem chk_es {s : RdV} {ok : Bool} (hi : RdInv s.1 s.2) (h : s.2 ≠ 0) : (chk ⟨0, s⟩ ok).e = 4 := by rw [chk_short hi h]
theorem dec_bad {bs : List UInt8} {e : Int} (he : e ≠ 0) (h : (decFin bs).z.e = e) : decode bs = (e, 0, 0, []) := by
  have h1 : decEnd (decFin bs) = e := by unfold decEnd; rw [h, if_neg he]
  unfold decode
  rw [h1, if_neg he]
theorem fin_head {bs : List UInt8} {e : Int} (he : e ≠ 0) (h : (decHead bs).z.e = e) : (decFin bs).z.e = e := by
  unfold decFin
  rw [decRun_ne (by dsimp only; rw [h]; exact he)]
  exact h
theorem decOf_none {w w' : World} {bs : List UInt8} {e : Int} (hb : Below w.heap.size w w') (he : e ≠ 0) (hd : decode bs = (e, 0, 0, [])) : DecOf w bs (.returned (.tuple #[.agg #[.int .u64 0, .int .i64 0, .slice none 0 0], .int .i64 e])) w' := by
  refine ⟨hb, [], .slice none 0 0, by rw [hd], ?_, fun _ => rfl, World.ownsRow_nil _ _ _ _, fun e he => absurd he (by simp)⟩
  rw [hd]
  intro h
  exact absurd h he
set_option maxRecDepth 100000 in
set_option maxHeartbeats 6400000 in
theorem rcdec_any (v : Value) (bs : List UInt8) (w : World) (B : Nat) (hB : B ≤ w.heap.size) (h : Reads w B v (bytesV bs)) (hl : bs.length ≤ 1048576) : Calls Try.prog 12 #[v] w (DecOf w bs) := by
  obtain ⟨A0, c0, rfl, _, _⟩ := h.form
  rw [length_bytesV] at h ⊢
  have HH : Hid (DR w (((w.alloc (.cells #[.int .u64 0, .int .i64 0, .slice none 0 0] 25)).alloc (.cells #[.int .u64 0, .int .i64 0, .slice none 0 0] 25)).alloc (.cells #[.slice A0 bs.length c0, .int .i64 0] 64)) (w.heap.size + 1 + 1) A0 c0 (bs, 0)) := Lib.hid (by
    have hk2 := (Blk.fresh (w.alloc (.cells #[.int .u64 0, .int .i64 0, .slice none 0 0] 25)) 25 [.int .u64 0, .int .i64 0, .slice none 0 0]).alloc (.cells #[.slice A0 bs.length c0, .int .i64 0] 64)
    have hk3 := Blk.fresh ((w.alloc (.cells #[.int .u64 0, .int .i64 0, .slice none 0 0] 25)).alloc (.cells #[.int .u64 0, .int .i64 0, .slice none 0 0] 25)) 64 [.slice A0 bs.length c0, .int .i64 0]
    have hb3 : Below w.heap.size w (((w.alloc (.cells #[.int .u64 0, .int .i64 0, .slice none 0 0] 25)).alloc (.cells #[.int .u64 0, .int .i64 0, .slice none 0 0] 25)).alloc (.cells #[.slice A0 bs.length c0, .int .i64 0] 64)) := (((Below.refl _ w).alloc (Nat.le_refl _) _).alloc (by simp) _).alloc (by simp only [World.size_alloc]; omega) _
    simp only [World.size_alloc] at hk2 hk3
    have hA : 0 < bs.length → ∀ a, A0 = some a → a.block < w.heap.size := fun h0 a ha => by
      obtain ⟨A, n, c, e, hl, _, _, hat⟩ := h
      injection e with e1 e2 e3
      subst e1 e2 e3
      rw [length_bytesV] at hl
      obtain ⟨g, o, e, hg, _⟩ := hat.out h0
      rw [ha] at e
      injection e with e
      subst e
      show g < _
      omega
    exact ⟨⟨hk3, (h.below (hb3.mono hB)).more (by simp only [World.size_alloc]; omega), Lib.hid (fun h0 a ha => by have := hA h0 a ha; omega)⟩, Lib.hid (.inl rfl), by dsimp only; omega, ((Blk.fresh w 25 [.int .u64 0, .int .i64 0, .slice none 0 0]).alloc _).alloc _, hk2, hb3, by omega, Lib.hid hA⟩)
  clear h
  go_enter Try.func12, Try.ntmps12
  go_wp2_with fail
  generalize (((w.alloc (.cells #[.int .u64 0, .int .i64 0, .slice none 0 0] 25)).alloc (.cells #[.int .u64 0, .int .i64 0, .slice none 0 0] 25)).alloc (.cells #[.slice A0 bs.length c0, .int .i64 0] 64)) = w1 at HH ⊢
  obtain ⟨out, hout⟩ : ∃ o, rdt (bs, 0) 4 = o := ⟨_, rfl⟩
  obtain ⟨s1, hs1⟩ : ∃ o, rds (bs, 0) 4 = o := ⟨_, rfl⟩
  obtain ⟨n2, hn2⟩ : ∃ o, deB (rdt s1 8) = o := ⟨_, rfl⟩
  obtain ⟨s2, hs2⟩ : ∃ o, rds s1 8 = o := ⟨_, rfl⟩
  obtain ⟨n3, hn3⟩ : ∃ o, deB (rdt s2 4) = o := ⟨_, rfl⟩
  obtain ⟨s3, hs3⟩ : ∃ o, rds s2 4 = o := ⟨_, rfl⟩
  obtain ⟨n4, hn4⟩ : ∃ o, deB (rdt s3 1) = o := ⟨_, rfl⟩
  obtain ⟨s4, hs4⟩ : ∃ o, rds s3 1 = o := ⟨_, rfl⟩
  have HHD : Hid (decHead bs = ⟨chk ⟨(chk ⟨(chk ⟨0, s1⟩ (out == beginB)).e, s3⟩ (decide (n3 ≤ 1000000))).e, s4⟩ (decide (n4 ≤ 12)), n2, n3, n4⟩) := Lib.hid (by subst hs4 hn4 hs3 hn3 hs2 hn2 hs1 hout; rfl)
  have i1 : RdInv s1.1 s1.2 := by rw [← hs1]; exact rds_inv (.inl rfl)
  have i2 : RdInv s2.1 s2.2 := by rw [← hs2]; exact rds_inv i1
  have i3 : RdInv s3.1 s3.2 := by rw [← hs3]; exact rds_inv i2
  have i4 : RdInv s4.1 s4.2 := by rw [← hs4]; exact rds_inv i3
  have I1 := Lib.hid i1
  have I2 := Lib.hid i2
  have I3 := Lib.hid i3
  have I4 := Lib.hid i4
  have l1 : s1.1.length ≤ bs.length := by rw [← hs1]; exact rds_len _ _
  have l2 : s2.1.length ≤ s1.1.length := by rw [← hs2]; exact rds_len _ _
  have l3 : s3.1.length ≤ s2.1.length := by rw [← hs3]; exact rds_len _ _
  have l4 : s4.1.length ≤ s3.1.length := by rw [← hs4]; exact rds_len _ _
  have b2 : n2 < 18446744073709551616 := by rw [← hn2]; exact deB_u64 _
  have b3 : n3 < 4294967296 := by rw [← hn3]; exact deB_u32 _
  have b4 : n4 < 256 := by rw [← hn4]; exact deB_u8 _
  have HT1 := Lib.hid (rtake_any w1 (w.heap.size + 1 + 1) A0 c0 bs 0 4 (.inl rfl) HH.out.rd (by omega))
  rw [show takeOut bs 0 4 = out from hout, show takeLeft bs 0 4 = s1.1 by rw [← hs1]; rfl, show takeErr bs 0 4 = s1.2 by rw [← hs1]; rfl] at HT1
  have HT2 : Hid (∀ W A c, Rd 64 W (w.heap.size + 1 + 1) A c s1.1 s1.2 → Calls Try.prog 32 #[.pointer (some ⟨w.heap.size + 1 + 1, 0, none⟩)] W (Read 64 W (w.heap.size + 1 + 1) A (.int .u64 (n2 : Int)) s2.1 s2.2)) := Lib.hid (fun W A c hr => by
    have h1 := mu64_any W _ A c s1.1 s1.2 i1 hr (by omega)
    rwa [show deB (takeOut s1.1 s1.2 8) = n2 from hn2, show takeLeft s1.1 s1.2 8 = s2.1 by rw [← hs2]; rfl, show takeErr s1.1 s1.2 8 = s2.2 by rw [← hs2]; rfl] at h1)
  have HT3 : Hid (∀ W A c, Rd 64 W (w.heap.size + 1 + 1) A c s2.1 s2.2 → Calls Try.prog 33 #[.pointer (some ⟨w.heap.size + 1 + 1, 0, none⟩)] W (Read 64 W (w.heap.size + 1 + 1) A (.int .u32 (n3 : Int)) s3.1 s3.2)) := Lib.hid (fun W A c hr => by
    have h1 := mu32_any W _ A c s2.1 s2.2 i2 hr (by omega)
    rwa [show deB (takeOut s2.1 s2.2 4) = n3 from hn3, show takeLeft s2.1 s2.2 4 = s3.1 by rw [← hs3]; rfl, show takeErr s2.1 s2.2 4 = s3.2 by rw [← hs3]; rfl] at h1)
  have HT4 : Hid (∀ W A c, Rd 64 W (w.heap.size + 1 + 1) A c s3.1 s3.2 → Calls Try.prog 34 #[.pointer (some ⟨w.heap.size + 1 + 1, 0, none⟩)] W (Read 64 W (w.heap.size + 1 + 1) A (.int .i64 (n4 : Int)) s4.1 s4.2)) := Lib.hid (fun W A c hr => by
    have h1 := mu8_any W _ A c s3.1 s3.2 i3 hr (by omega)
    rwa [show deB (takeOut s3.1 s3.2 1) = n4 from hn4, show takeLeft s3.1 s3.2 1 = s4.1 by rw [← hs4]; rfl, show takeErr s3.1 s3.2 1 = s4.2 by rw [← hs4]; rfl] at h1)
  have HKS3 : Hid (s2.2 ≠ 0 → s3.2 ≠ 0) := Lib.hid (fun h => by rw [← hs3]; unfold rds takeErr; rw [if_pos (.inl h)]; exact h)
  have HKS4 : Hid (s3.2 ≠ 0 → s4.2 ≠ 0) := Lib.hid (fun h => by rw [← hs4]; unfold rds takeErr; rw [if_pos (.inl h)]; exact h)
  clear hout hs1 hn2 hs2 hn3 hs3 hn4 hs4 i1 i2 i3 i4
  refine HT1.out.mono ?_
  rintro en w2 ⟨A', c', A1, c1, rfl, hown, hrd, hA, ho⟩
  have HH1 := Lib.hid (HH.out.read (s' := s1) hrd I1.out hA ho l1)
  have kS := run_str_k (Reads.of_own hown)
  clear hown hrd hA ho HT1 HH
  have hke := Lib.hid HH1.out.rd.blk
  have le := hke.out.lt
  have e1 := hke.out.cell 1
  simp only [List.getElem?_cons_zero, List.getElem?_cons_succ] at e1
  clear hke
  by_cases he1 : s1.2 = 0
  · have te1 : (s1.2 != 0) = false := by simp [he1]
    have HE1 := Lib.hid he1
    clear he1
    by_cases hbg : out = beginB
    · have tb : (out == [112, 100, 115, 116]) = true := by simpa [beginB] using hbg
      have tb' : (out != [112, 100, 115, 116]) = false := by simpa [beginB] using hbg
      have HHD : Hid (decHead bs = ⟨chk ⟨(chk ⟨0, s3⟩ (decide (n3 ≤ 1000000))).e, s4⟩ (decide (n4 ≤ 12)), n2, n3, n4⟩) := Lib.hid (by rw [HHD.out, hbg, beq_self_eq_true, chk_good HE1.out])
      clear hbg
      go_wp2_with fail
      clear kS e1 le te1 tb tb'
      refine (HT2.out _ _ _ HH1.out.rd).mono ?_
      rintro en w3 ⟨rfl, A3, c3, hrd, hA, ho⟩
      have HH2 := Lib.hid (HH1.out.read (s' := s2) hrd I2.out hA ho l2)
      have HG2 := Lib.hid (HH2.out.start (n2 : Int) 0)
      have lw3 := HH2.out.rd.blk.lt
      clear hrd hA ho HT2 HH1 HH2
      go_wp2_with fail
      obtain ⟨g, hg⟩ : ∃ g, w3.heap.size = g := ⟨_, rfl⟩
      rw [hg] at HG2 ⊢
      generalize (w3.alloc (.cells #[.int .u64 (n2 : Int), .int .i64 0, .slice none 0 0] 25)) = w4 at HG2 ⊢
      clear hg lw3
      refine (HT3.out _ _ _ HG2.out.dr.rd).mono ?_
      rintro en w5 ⟨rfl, A5, c5, hrd, hA, ho⟩
      have HG3 := Lib.hid (HG2.out.read (s' := s3) hrd I3.out hA ho l3)
      have HH3 := Lib.hid HG3.out.dr
      clear hrd hA ho HT3 HG2
      have hke := Lib.hid HH3.out.rd.blk
      have le := hke.out.lt
      have e1 := hke.out.cell 1
      simp only [List.getElem?_cons_zero, List.getElem?_cons_succ] at e1
      clear hke
      by_cases hbig : s3.2 = 0 ∧ 1000000 < n3
      · have te3 : (s3.2 == 0) = true := by simp [hbig.1]
        have tb3 : decide ((1000000 : Int) < (n3 : Int)) = true := decide_eq_true (by omega)
        have HDEC : Hid (decode bs = (5, 0, 0, [])) := Lib.hid (dec_bad (by decide) (fin_head (by decide) (by rw [HHD.out]; dsimp only; rw [decide_eq_false (by omega), chk_bad hbig.1]; exact chk_e rfl (by decide))))
        have hkl := Lib.hid HH3.out.non
        have hkr := Lib.hid HH3.out.res
        have ll := hkl.out.lt
        have lr := hkr.out.lt
        have f0 := hkr.out.free 0
        have f1 := hkr.out.free 1
        have f2 := hkr.out.free 2
        unfold szcells at hkl hkr
        have m0 := hkl.out.cell 0
        have m1 := hkl.out.cell 1
        have m2 := hkl.out.cell 2
        simp only [List.getElem?_cons_zero, List.getElem?_cons_succ] at m0 m1 m2
        have r0 := hkr.out.cell 0
        have r1 := hkr.out.cell 1
        have r2 := hkr.out.cell 2
        simp only [List.getElem?_cons_zero, List.getElem?_cons_succ] at r0 r1 r2
        go_wp2_with fail
        clear m0 m1 m2 r0 r1 r2 f0 f1 f2 ll lr hkl
        have hq := three_ok hkr.out (.int .u64 0) (.int .i64 0) (.slice none 0 0)
        unfold three at hq
        generalize (((w5.setCell ⟨w.heap.size, 0, none⟩ (.int .u64 0)).setCell ⟨w.heap.size, 1, none⟩ (.int .i64 0)).setCell ⟨w.heap.size, 2, none⟩ (.slice none 0 0)) = W at hq ⊢
        obtain ⟨hqo, hqb⟩ := hq
        have hqb := Lib.hid hqb
        have p0 := hqb.out.cell 0
        have p1 := hqb.out.cell 1
        have p2 := hqb.out.cell 2
        simp only [List.getElem?_cons_zero, List.getElem?_cons_succ] at p0 p1 p2
        refine bodyPost_ret (v := .tuple #[.agg #[.int .u64 0, .int .i64 0, .slice none 0 0], .int .i64 5]) ?_ rfl ?_
        · simp [results, Try.results12, asAddr, Result.andThen, p0, p1, p2, go_sem]
        · exact decOf_none (HH3.out.bel.trans (hqo.below HH3.out.bel.size (fun i hi => by omega))) (by decide) HDEC.out
      · have HN3 : Hid (s4.2 = 0 → n3 ≤ 1000000 ∧ s3.2 = 0) := Lib.hid (fun h => by
          have h3 : s3.2 = 0 := by
            by_cases h9 : s3.2 = 0
            · exact h9
            · exact absurd h (HKS4.out h9)
          exact ⟨by omega, h3⟩)
        have hw5 : ∀ e9, s4.2 ≠ 0 → (chk ⟨(chk ⟨0, s3⟩ (decide (n3 ≤ 1000000))).e, s4⟩ e9).e = 4 := fun e9 h => by
          by_cases h9 : s3.2 = 0
          · rw [decide_eq_true (by omega), chk_good h9]
            exact chk_es I4.out h
          · rw [chk_short I3.out h9]
            exact chk_e rfl (by decide)
        have HW5 := Lib.hid hw5
        clear hw5
        have tst : ((s3.2 == 0) = true ∧ decide ((1000000 : Int) < (n3 : Int)) = false) ∨ (s3.2 == 0) = false := by
          by_cases h9 : s3.2 = 0
          · exact .inl ⟨by simp [h9], decide_eq_false (by omega)⟩
          · exact .inr (by simpa using h9)
        clear hbig
        rcases tst with ⟨te3, tb3⟩ | te3 <;>
        · go_wp2_with fail
          clear e1 le
          refine (HT4.out _ _ _ HG3.out.dr.rd).mono ?_
          rintro en w6 ⟨rfl, A6, c6, hrd, hA, ho⟩
          have HG4 := Lib.hid (HG3.out.read (s' := s4) hrd I4.out hA ho l4)
          have HH4 := Lib.hid HG4.out.dr
          clear hrd hA ho HT4 HG3 HH3
          have hke := Lib.hid HH4.out.rd.blk
          have le := hke.out.lt
          have e1 := hke.out.cell 1
          simp only [List.getElem?_cons_zero, List.getElem?_cons_succ] at e1
          clear hke
          by_cases he4 : s4.2 = 0
          · have te4 : (s4.2 != 0) = false := by simp [he4]
            obtain ⟨hn3, h3⟩ := HN3.out he4
            have HE4 := Lib.hid he4
            have H3 := Lib.hid h3
            clear he4 h3 te3
            by_cases hn12 : n4 ≤ 12
            · have t12 : decide ((12 : Int) < (n4 : Int)) = false := decide_eq_false (by omega)
              have HF : Hid (decFin bs = decRun n4 ⟨⟨0, s4⟩, []⟩) := Lib.hid (by unfold decFin; rw [HHD.out]; dsimp only; rw [decide_eq_true hn3, chk_good H3.out, decide_eq_true hn12, chk_good HE4.out])
              have HSD : Hid ((decHead bs).seed = n2 ∧ (decHead bs).step = n3) := Lib.hid (by rw [HHD.out]; exact ⟨rfl, rfl⟩)
              have w3 : IntKind.i64.wrap (n3 : Int) = (n3 : Int) := IntWalk.i64_in _ (by omega)
              have hkg := Lib.hid HG4.out.st
              have lg := hkg.out.lt
              have fg := hkg.out.free 1
              have m0 := hkg.out.cell 0
              have m1 := hkg.out.cell 1
              have m2 := hkg.out.cell 2
              simp only [List.getElem?_cons_zero, List.getElem?_cons_succ] at m0 m1 m2
              clear HW5 HN3 HKS3 HKS4
              go_upto_region 18 with fail
              clear m0 m1 m2 fg lg hkg e1 le te4 t12 w3
              have HG5 := Lib.hid (HG4.out.step (n3 : Int))
              clear HG4 HH4
              generalize (w6.setCell ⟨g, 1, none⟩ (.int .i64 (n3 : Int))) = w7 at HG5 ⊢
              go_wp2_with fail
              go_loopw [59] (fun i wr => ∃ (j : Nat) (u : Value) (A : Option Addr) (c : Nat) (s : RdV) (ps : List ParV), j ≤ n4 ∧ i = .int .i64 j ∧ Hid (DQ w wr (w.heap.size + 1 + 1) g A c s n2 n3 u ps ∧ ps.length = j ∧ decRun (n4 - j) ⟨⟨0, s⟩, ps.map (·.c)⟩ = decFin bs)) (fun i _ => n4 - (intOf i).toNat)
              case atStart => exact ⟨0, .slice none 0 0, A6, c6, s4, [], by omega, rfl, Lib.hid ⟨HG5.out, rfl, HF.out.symm⟩⟩
              case round =>
                obtain ⟨j, u, A, c, s, ps, hj, rfl, HX⟩ := hrel
                clear HG5
                by_cases hlt : j < n4
                · obtain ⟨t, ht⟩ : ∃ t, decP ⟨0, s⟩ = t := ⟨_, rfl⟩
                  have HPA := Lib.hid (rpar_any wr _ A c s HX.out.1.dr.rd HX.out.1.dr.inv.out HX.out.1.dr.len t ht)
                  have l' := decP_len ⟨0, s⟩
                  rw [ht] at l'
                  have HRN : Hid (decRun (n4 - (j + 1)) ⟨t.z, ps.map (·.c) ++ [t.p]⟩ = decFin bs) := Lib.hid (by
                    rw [← HX.out.2.2, show n4 - j = (n4 - (j + 1)) + 1 by omega, decRun, if_pos rfl]
                    unfold decStep
                    dsimp only
                    rw [ht])
                  have i7 : (0 : Int) ≤ (j : Int) := by omega
                  have j7 : (j : Int) < (n4 : Int) := by omega
                  clear ht
                  go_wp2_with fail
                  refine HPA.out.mono ?_
                  rintro en w8 ⟨A8, c8, pv, s', rfl, hin, hc, hrd, hi, hA, ho⟩
                  obtain ⟨pwd, pwx, pmv, pbd, pbx, pc⟩ := pv
                  obtain ⟨B1, d1, f1⟩ := hin.wd.form
                  obtain ⟨B2, d2, f2⟩ := hin.wx.form
                  obtain ⟨B3, d3, f3⟩ := hin.m.form
                  obtain ⟨B4, d4, f4⟩ := hin.bd.form
                  obtain ⟨B5, d5, f5⟩ := hin.bx.form
                  rw [length_ints] at f1 f2 f3 f4 f5
                  dsimp only at f1 f2 f3 f4 f5
                  subst f1 f2 f3 f4 f5
                  obtain ⟨Au, cu, rfl⟩ := own_form HX.out.1.own
                  obtain ⟨tz, tp⟩ := t
                  obtain ⟨te, ts⟩ := tz
                  dsimp only at hc l' HRN ⊢
                  by_cases het : te = 0
                  · subst het
                    obtain ⟨hcc, hss⟩ := hc rfl
                    subst hss
                    have HY := Lib.hid (HX.out.1.read hrd hi hA ho l')
                    have HCC := Lib.hid hcc
                    have HXL := Lib.hid HX.out.2.1
                    have HGU : Hid (∀ k, (Value.slice Au ps.length cu).ownBlock = some k → k < wr.heap.size) := Lib.hid (fun k hk => (HX.out.1.own.lt k hk).2)
                    have HGL : Hid (g < wr.heap.size) := Lib.hid HX.out.1.st.lt
                    have HIN := Lib.hid hin
                    clear hc hrd hi hA ho hcc hin HPA l' HX
                    have HZ := Lib.hid (HY.out.below ((Below.refl _ w8).alloc (Nat.le_refl _) (.cells #[.slice B1 pc.wd.length d1, .int .i64 pc.we, .slice B2 pc.wx.length d2, .slice B3 pc.m.length d3, .slice B4 pc.bd.length d4, .int .i64 pc.be, .slice B5 pc.bx.length d5] 43)))
                    have HKP := Lib.hid (Blk.fresh w8 43 [.slice B1 pc.wd.length d1, .int .i64 pc.we, .slice B2 pc.wx.length d2, .slice B3 pc.m.length d3, .slice B4 pc.bd.length d4, .int .i64 pc.be, .slice B5 pc.bx.length d5])
                    have HIZ := Lib.hid (HIN.out.off ((Off.refl (fun _ => False) w8).alloc (.cells #[.slice B1 pc.wd.length d1, .int .i64 pc.we, .slice B2 pc.wx.length d2, .slice B3 pc.m.length d3, .slice B4 pc.bd.length d4, .int .i64 pc.be, .slice B5 pc.bx.length d5] 43)) (fun _ _ _ h => h) (fun g hg _ => hg))
                    have hgz : ∀ k, (Value.slice Au ps.length cu).ownBlock = some k → k < wr.heap.size := HGU.out
                    have HGZ := Lib.hid hgz
                    have hgg := HGL.out
                    clear hgz HGU HIN HY
                    go_upto_region 21 with fail
                    generalize (w8.alloc (.cells #[.slice B1 pc.wd.length d1, .int .i64 pc.we, .slice B2 pc.wx.length d2, .slice B3 pc.m.length d3, .slice B4 pc.bd.length d4, .int .i64 pc.be, .slice B5 pc.bx.length d5] 43)) = w9 at HZ HKP HIZ ⊢
                    generalize w8.heap.size = q at HKP ⊢
                    have hkg := Lib.hid HZ.out.st
                    have lg := hkg.out.lt
                    have fg := hkg.out.free 2
                    have m2 := hkg.out.cell 2
                    simp only [List.getElem?_cons_zero, List.getElem?_cons_succ] at m2
                    have lk := HKP.out.lt
                    have k0 := HKP.out.cell 0
                    have k1 := HKP.out.cell 1
                    have k2 := HKP.out.cell 2
                    have k3 := HKP.out.cell 3
                    have k4 := HKP.out.cell 4
                    have k5 := HKP.out.cell 5
                    have k6 := HKP.out.cell 6
                    simp only [List.getElem?_cons_zero, List.getElem?_cons_succ] at k0 k1 k2 k3 k4 k5 k6
                    have HZ2 := Lib.hid (HZ.out.below ((Below.refl _ w9).alloc (Nat.le_refl _) (.cells #[.slice B1 pc.wd.length d1, .int .i64 pc.we, .slice B2 pc.wx.length d2, .slice B3 pc.m.length d3, .slice B4 pc.bd.length d4, .int .i64 pc.be, .slice B5 pc.bx.length d5] 43)))
                    have HIZ2 := Lib.hid (HIZ.out.off ((Off.refl (fun _ => False) w9).alloc (.cells #[.slice B1 pc.wd.length d1, .int .i64 pc.we, .slice B2 pc.wx.length d2, .slice B3 pc.m.length d3, .slice B4 pc.bd.length d4, .int .i64 pc.be, .slice B5 pc.bx.length d5] 43)) (fun _ _ _ h => h) (fun g hg _ => hg))
                    have hpl : ps.length ≤ 12 := by have := HXL.out; omega
                    go_wp2_with (at_builtin; refine wpList_extendN elem_par _ rfl (.tmp 71) (.tmp 73) rfl (g + 1) ps.length _ (ps.flatMap ParV.cells) rfl HZ2.out.own _ 1 _ [.slice B1 pc.wd.length d1, .int .i64 pc.we, .slice B2 pc.wx.length d2, .slice B3 pc.m.length d3, .slice B4 pc.bd.length d4, .int .i64 pc.be, .slice B5 pc.bx.length d5] rfl ((Blk.fresh w9 43 [.slice B1 pc.wd.length d1, .int .i64 pc.we, .slice B2 pc.wx.length d2, .slice B3 pc.m.length d3, .slice B4 pc.bd.length d4, .int .i64 pc.be, .slice B5 pc.bx.length d5]).readsN (n := 1) rfl (by decide)) rfl (by intro y hy; simp only [List.mem_cons, List.not_mem_nil, or_false] at hy; rcases hy with rfl | rfl | rfl | rfl | rfl | rfl | rfl <;> rfl) (by unfold maxLen; omega) (by omega) (by have := HZ2.out.st.lt; omega) ?_; intro A9 c9 w10 hown9 hg9 hf9; have hbq := HZ2.out.st.grown hg9 (fun e => by have := (HZ2.out.own.lt _ e.symm).1; omega); have fq := hbq.free 2; have mq := hbq.cell 2; have lq := hbq.lt; simp only [List.getElem?_cons_zero, List.getElem?_cons_succ] at mq)
                    have HW := Lib.hid (HZ2.out.push (x := (⟨.slice B1 pc.wd.length d1, .slice B2 pc.wx.length d2, .slice B3 pc.m.length d3, .slice B4 pc.bd.length d4, .slice B5 pc.bx.length d5, pc⟩ : ParV)) (u' := .slice A9 (ps.length + 1) c9) HIZ2.out ⟨hgg, HGZ.out⟩ (by rw [List.length_append, List.flatMap_append]; exact hown9) hg9 hf9)
                    clear hown9 hg9 hf9 hbq fq mq lq m2 fg lg hkg k0 k1 k2 k3 k4 k5 k6 lk HZ HZ2 HIZ HIZ2 HKP
                    (try go_wp2_with fail)
                    go_roundw
                    case rel => exact ⟨j + 1, _, A8, c8, _, ps ++ [(⟨.slice B1 pc.wd.length d1, .slice B2 pc.wx.length d2, .slice B3 pc.m.length d3, .slice B4 pc.bd.length d4, .slice B5 pc.bx.length d5, pc⟩ : ParV)], by omega, by go_num, Lib.hid ⟨HW.out, by rw [List.length_append, HXL.out]; rfl, by rw [List.map_append, List.map_cons, List.map_nil]; dsimp only; rw [HCC.out]; exact HRN.out⟩⟩
                    case measure => simp [intOf]; omega
                  · have tt : (te != 0) = true := by simpa using het
                    have HDE := Lib.hid ((HX.out.1.dr.ends ho).alloc (.cells #[.slice B1 pc.wd.length d1, .int .i64 pc.we, .slice B2 pc.wx.length d2, .slice B3 pc.m.length d3, .slice B4 pc.bd.length d4, .int .i64 pc.be, .slice B5 pc.bx.length d5] 43))
                    clear hc hrd hi hA ho hin HPA l'
                    go_upto_region 21 with fail
                    generalize (w8.alloc (.cells #[.slice B1 pc.wd.length d1, .int .i64 pc.we, .slice B2 pc.wx.length d2, .slice B3 pc.m.length d3, .slice B4 pc.bd.length d4, .int .i64 pc.be, .slice B5 pc.bx.length d5] 43)) = w9 at HDE ⊢
                    have HDEC : Hid (decode bs = (te, 0, 0, [])) := Lib.hid (dec_bad het (by rw [← HRN.out, decRun_ne (by exact het)]))
                    have hkl := Lib.hid HDE.out.non
                    have hkr := Lib.hid HDE.out.res
                    have ll := hkl.out.lt
                    have lr := hkr.out.lt
                    have f0 := hkr.out.free 0
                    have f1 := hkr.out.free 1
                    have f2 := hkr.out.free 2
                    unfold szcells at hkl hkr
                    have m0 := hkl.out.cell 0
                    have m1 := hkl.out.cell 1
                    have m2 := hkl.out.cell 2
                    simp only [List.getElem?_cons_zero, List.getElem?_cons_succ] at m0 m1 m2
                    have r0 := hkr.out.cell 0
                    have r1 := hkr.out.cell 1
                    have r2 := hkr.out.cell 2
                    simp only [List.getElem?_cons_zero, List.getElem?_cons_succ] at r0 r1 r2
                    go_wp2_with fail
                    clear m0 m1 m2 r0 r1 r2 f0 f1 f2 ll lr hkl
                    have hq := three_ok hkr.out (.int .u64 0) (.int .i64 0) (.slice none 0 0)
                    unfold three at hq
                    generalize (((w9.setCell ⟨w.heap.size, 0, none⟩ (.int .u64 0)).setCell ⟨w.heap.size, 1, none⟩ (.int .i64 0)).setCell ⟨w.heap.size, 2, none⟩ (.slice none 0 0)) = W at hq ⊢
                    obtain ⟨hqo, hqb⟩ := hq
                    have hqb := Lib.hid hqb
                    have p0 := hqb.out.cell 0
                    have p1 := hqb.out.cell 1
                    have p2 := hqb.out.cell 2
                    simp only [List.getElem?_cons_zero, List.getElem?_cons_succ] at p0 p1 p2
                    refine bodyPost_ret (v := .tuple #[.agg #[.int .u64 0, .int .i64 0, .slice none 0 0], .int .i64 te]) ?_ rfl ?_
                    · simp [results, Try.results12, asAddr, Result.andThen, p0, p1, p2, go_sem]
                    · exact decOf_none (HDE.out.bel.trans (hqo.below HDE.out.bel.size (fun i hi => by omega))) (het) HDEC.out
                · obtain rfl : j = n4 := by omega
                  have HFF : Hid (decFin bs = ⟨⟨0, s⟩, ps.map (·.c)⟩) := Lib.hid (by have h1 := HX.out.2.2; rw [Nat.sub_self] at h1; rw [← h1]; rfl)
                  have HXQ := Lib.hid HX.out.1
                  have HHF := Lib.hid HX.out.1.dr
                  have HME := Lib.hid (mend_any wr _ A c s.1 s.2 HX.out.1.dr.rd)
                  obtain ⟨er, her⟩ : ∃ er, endErr s.1 s.2 = er := ⟨_, rfl⟩
                  rw [her] at HME
                  have HDE : Hid (decEnd (decFin bs) = er) := Lib.hid (by rw [HFF.out]; unfold decEnd; rw [if_pos rfl]; exact her)
                  clear hlt HX her
                  go_wp2_with fail
                  refine HME.out.mono ?_
                  rintro en w' ⟨rfl, rfl⟩
                  by_cases h9 : er = 0
                  · subst h9
                    obtain ⟨Au, cu, rfl⟩ := own_form HXQ.out.own
                    have hlg := HXQ.out.lg
                    have HDC : Hid (decode bs = (0, (n2 : Int), (n3 : Int), ps.map (·.c))) := Lib.hid (by unfold decode; rw [HDE.out, if_pos rfl, HSD.out.1, HSD.out.2, HFF.out])
                    have hkg := Lib.hid HXQ.out.st
                    have lg := hkg.out.lt
                    have hkr := Lib.hid HHF.out.res
                    have lr := hkr.out.lt
                    have f0 := hkr.out.free 0
                    have f1 := hkr.out.free 1
                    have f2 := hkr.out.free 2
                    unfold szcells at hkr
                    have m0 := hkg.out.cell 0
                    have m1 := hkg.out.cell 1
                    have m2 := hkg.out.cell 2
                    simp only [List.getElem?_cons_zero, List.getElem?_cons_succ] at m0 m1 m2
                    have r0 := hkr.out.cell 0
                    have r1 := hkr.out.cell 1
                    have r2 := hkr.out.cell 2
                    simp only [List.getElem?_cons_zero, List.getElem?_cons_succ] at r0 r1 r2
                    go_wp2_with fail
                    clear m0 m1 m2 r0 r1 r2 f0 f1 f2 lr lg hkg
                    have hq := three_ok hkr.out (.int .u64 (n2 : Int)) (.int .i64 (n3 : Int)) (.slice Au ps.length cu)
                    unfold three at hq
                    generalize (((wr.setCell ⟨w.heap.size, 0, none⟩ (.int .u64 (n2 : Int))).setCell ⟨w.heap.size, 1, none⟩ (.int .i64 (n3 : Int))).setCell ⟨w.heap.size, 2, none⟩ (.slice Au ps.length cu)) = W at hq ⊢
                    obtain ⟨hqo, hqb⟩ := hq
                    have hqb := Lib.hid hqb
                    have p0 := hqb.out.cell 0
                    have p1 := hqb.out.cell 1
                    have p2 := hqb.out.cell 2
                    simp only [List.getElem?_cons_zero, List.getElem?_cons_succ] at p0 p1 p2
                    refine bodyPost_ret (v := .tuple #[.agg #[.int .u64 (n2 : Int), .int .i64 (n3 : Int), .slice Au ps.length cu], .int .i64 0]) ?_ rfl ?_
                    · simp [results, Try.results12, asAddr, Result.andThen, p0, p1, p2, go_sem]
                    · refine ⟨HHF.out.bel.trans (hqo.below HHF.out.bel.size (fun i hi => by omega)), ps, .slice Au ps.length cu, by rw [HDC.out], fun _ => by rw [HDC.out], fun h => absurd (by rw [HDC.out]) h, own_lower (own_off HXQ.out.own hqo (fun k hk => by have := (HXQ.out.own.lt k hk).1; show ¬ _ = _; omega)) (by omega), fun x hx => (HXQ.out.ins.out x hx).off hqo (fun i hi _ => by have := hi.1; show ¬ i = _; omega) (fun i hi _ => by omega)⟩
                  · have t9 : (er != 0) = true := by simpa using h9
                    have HDEC : Hid (decode bs = (er, 0, 0, [])) := Lib.hid (by unfold decode; rw [HDE.out, if_neg h9])
                    have hkl := Lib.hid HHF.out.non
                    have hkr := Lib.hid HHF.out.res
                    have ll := hkl.out.lt
                    have lr := hkr.out.lt
                    have f0 := hkr.out.free 0
                    have f1 := hkr.out.free 1
                    have f2 := hkr.out.free 2
                    unfold szcells at hkl hkr
                    have m0 := hkl.out.cell 0
                    have m1 := hkl.out.cell 1
                    have m2 := hkl.out.cell 2
                    simp only [List.getElem?_cons_zero, List.getElem?_cons_succ] at m0 m1 m2
                    have r0 := hkr.out.cell 0
                    have r1 := hkr.out.cell 1
                    have r2 := hkr.out.cell 2
                    simp only [List.getElem?_cons_zero, List.getElem?_cons_succ] at r0 r1 r2
                    go_wp2_with fail
                    clear m0 m1 m2 r0 r1 r2 f0 f1 f2 ll lr hkl
                    have hq := three_ok hkr.out (.int .u64 0) (.int .i64 0) (.slice none 0 0)
                    unfold three at hq
                    generalize (((wr.setCell ⟨w.heap.size, 0, none⟩ (.int .u64 0)).setCell ⟨w.heap.size, 1, none⟩ (.int .i64 0)).setCell ⟨w.heap.size, 2, none⟩ (.slice none 0 0)) = W at hq ⊢
                    obtain ⟨hqo, hqb⟩ := hq
                    have hqb := Lib.hid hqb
                    have p0 := hqb.out.cell 0
                    have p1 := hqb.out.cell 1
                    have p2 := hqb.out.cell 2
                    simp only [List.getElem?_cons_zero, List.getElem?_cons_succ] at p0 p1 p2
                    refine bodyPost_ret (v := .tuple #[.agg #[.int .u64 0, .int .i64 0, .slice none 0 0], .int .i64 er]) ?_ rfl ?_
                    · simp [results, Try.results12, asAddr, Result.andThen, p0, p1, p2, go_sem]
                    · exact decOf_none (HHF.out.bel.trans (hqo.below HHF.out.bel.size (fun i hi => by omega))) (h9) HDEC.out
            · have t12 : decide ((12 : Int) < (n4 : Int)) = true := decide_eq_true (by omega)
              have HDEC : Hid (decode bs = (5, 0, 0, [])) := Lib.hid (dec_bad (by decide) (fin_head (by decide) (by rw [HHD.out]; dsimp only; rw [decide_eq_true hn3, chk_good H3.out, decide_eq_false hn12, chk_bad HE4.out])))
              have hkl := Lib.hid HH4.out.non
              have hkr := Lib.hid HH4.out.res
              have ll := hkl.out.lt
              have lr := hkr.out.lt
              have f0 := hkr.out.free 0
              have f1 := hkr.out.free 1
              have f2 := hkr.out.free 2
              unfold szcells at hkl hkr
              have m0 := hkl.out.cell 0
              have m1 := hkl.out.cell 1
              have m2 := hkl.out.cell 2
              simp only [List.getElem?_cons_zero, List.getElem?_cons_succ] at m0 m1 m2
              have r0 := hkr.out.cell 0
              have r1 := hkr.out.cell 1
              have r2 := hkr.out.cell 2
              simp only [List.getElem?_cons_zero, List.getElem?_cons_succ] at r0 r1 r2
              go_wp2_with fail
              clear m0 m1 m2 r0 r1 r2 f0 f1 f2 ll lr hkl
              have hq := three_ok hkr.out (.int .u64 0) (.int .i64 0) (.slice none 0 0)
              unfold three at hq
              generalize (((w6.setCell ⟨w.heap.size, 0, none⟩ (.int .u64 0)).setCell ⟨w.heap.size, 1, none⟩ (.int .i64 0)).setCell ⟨w.heap.size, 2, none⟩ (.slice none 0 0)) = W at hq ⊢
              obtain ⟨hqo, hqb⟩ := hq
              have hqb := Lib.hid hqb
              have p0 := hqb.out.cell 0
              have p1 := hqb.out.cell 1
              have p2 := hqb.out.cell 2
              simp only [List.getElem?_cons_zero, List.getElem?_cons_succ] at p0 p1 p2
              refine bodyPost_ret (v := .tuple #[.agg #[.int .u64 0, .int .i64 0, .slice none 0 0], .int .i64 5]) ?_ rfl ?_
              · simp [results, Try.results12, asAddr, Result.andThen, p0, p1, p2, go_sem]
              · exact decOf_none (HH4.out.bel.trans (hqo.below HH4.out.bel.size (fun i hi => by omega))) (by decide) HDEC.out
          · have te4 : (s4.2 != 0) = true := by simpa using he4
            have HDEC : Hid (decode bs = (4, 0, 0, [])) := Lib.hid (dec_bad (by decide) (fin_head (by decide) (by rw [HHD.out]; dsimp only; exact HW5.out _ he4)))
            have hkl := Lib.hid HH4.out.non
            have hkr := Lib.hid HH4.out.res
            have ll := hkl.out.lt
            have lr := hkr.out.lt
            have f0 := hkr.out.free 0
            have f1 := hkr.out.free 1
            have f2 := hkr.out.free 2
            unfold szcells at hkl hkr
            have m0 := hkl.out.cell 0
            have m1 := hkl.out.cell 1
            have m2 := hkl.out.cell 2
            simp only [List.getElem?_cons_zero, List.getElem?_cons_succ] at m0 m1 m2
            have r0 := hkr.out.cell 0
            have r1 := hkr.out.cell 1
            have r2 := hkr.out.cell 2
            simp only [List.getElem?_cons_zero, List.getElem?_cons_succ] at r0 r1 r2
            go_wp2_with fail
            clear m0 m1 m2 r0 r1 r2 f0 f1 f2 ll lr hkl
            have hq := three_ok hkr.out (.int .u64 0) (.int .i64 0) (.slice none 0 0)
            unfold three at hq
            generalize (((w6.setCell ⟨w.heap.size, 0, none⟩ (.int .u64 0)).setCell ⟨w.heap.size, 1, none⟩ (.int .i64 0)).setCell ⟨w.heap.size, 2, none⟩ (.slice none 0 0)) = W at hq ⊢
            obtain ⟨hqo, hqb⟩ := hq
            have hqb := Lib.hid hqb
            have p0 := hqb.out.cell 0
            have p1 := hqb.out.cell 1
            have p2 := hqb.out.cell 2
            simp only [List.getElem?_cons_zero, List.getElem?_cons_succ] at p0 p1 p2
            refine bodyPost_ret (v := .tuple #[.agg #[.int .u64 0, .int .i64 0, .slice none 0 0], .int .i64 4]) ?_ rfl ?_
            · simp [results, Try.results12, asAddr, Result.andThen, p0, p1, p2, go_sem]
            · exact decOf_none (HH4.out.bel.trans (hqo.below HH4.out.bel.size (fun i hi => by omega))) (by decide) HDEC.out
    · have tb : (out == [112, 100, 115, 116]) = false := by simpa [beginB] using hbg
      have tb' : (out != [112, 100, 115, 116]) = true := by simpa [beginB] using hbg
      have HDEC : Hid (decode bs = (5, 0, 0, [])) := Lib.hid (dec_bad (by decide) (fin_head (by decide) (by rw [HHD.out]; dsimp only; rw [show (out == beginB) = false from beq_eq_false_iff_ne.2 hbg, chk_bad HE1.out]; refine chk_e (e := 5) ?_ (by decide); dsimp only; exact chk_e (e := 5) rfl (by decide))))
      have hkl := Lib.hid HH1.out.non
      have hkr := Lib.hid HH1.out.res
      have ll := hkl.out.lt
      have lr := hkr.out.lt
      have f0 := hkr.out.free 0
      have f1 := hkr.out.free 1
      have f2 := hkr.out.free 2
      unfold szcells at hkl hkr
      have m0 := hkl.out.cell 0
      have m1 := hkl.out.cell 1
      have m2 := hkl.out.cell 2
      simp only [List.getElem?_cons_zero, List.getElem?_cons_succ] at m0 m1 m2
      have r0 := hkr.out.cell 0
      have r1 := hkr.out.cell 1
      have r2 := hkr.out.cell 2
      simp only [List.getElem?_cons_zero, List.getElem?_cons_succ] at r0 r1 r2
      go_wp2_with fail
      clear m0 m1 m2 r0 r1 r2 f0 f1 f2 ll lr hkl
      have hq := three_ok hkr.out (.int .u64 0) (.int .i64 0) (.slice none 0 0)
      unfold three at hq
      generalize (((w2.setCell ⟨w.heap.size, 0, none⟩ (.int .u64 0)).setCell ⟨w.heap.size, 1, none⟩ (.int .i64 0)).setCell ⟨w.heap.size, 2, none⟩ (.slice none 0 0)) = W at hq ⊢
      obtain ⟨hqo, hqb⟩ := hq
      have hqb := Lib.hid hqb
      have p0 := hqb.out.cell 0
      have p1 := hqb.out.cell 1
      have p2 := hqb.out.cell 2
      simp only [List.getElem?_cons_zero, List.getElem?_cons_succ] at p0 p1 p2
      refine bodyPost_ret (v := .tuple #[.agg #[.int .u64 0, .int .i64 0, .slice none 0 0], .int .i64 5]) ?_ rfl ?_
      · simp [results, Try.results12, asAddr, Result.andThen, p0, p1, p2, go_sem]
      · exact decOf_none (HH1.out.bel.trans (hqo.below HH1.out.bel.size (fun i hi => by omega))) (by decide) HDEC.out
  · have te1 : (s1.2 != 0) = true := by simpa using he1
    have HDEC : Hid (decode bs = (4, 0, 0, [])) := Lib.hid (dec_bad (by decide) (fin_head (by decide) (by rw [HHD.out]; dsimp only; rw [chk_short I1.out he1]; refine chk_e (e := 4) ?_ (by decide); dsimp only; exact chk_e (e := 4) rfl (by decide))))
    have hkl := Lib.hid HH1.out.non
    have hkr := Lib.hid HH1.out.res
    have ll := hkl.out.lt
    have lr := hkr.out.lt
    have f0 := hkr.out.free 0
    have f1 := hkr.out.free 1
    have f2 := hkr.out.free 2
    unfold szcells at hkl hkr
    have m0 := hkl.out.cell 0
    have m1 := hkl.out.cell 1
    have m2 := hkl.out.cell 2
    simp only [List.getElem?_cons_zero, List.getElem?_cons_succ] at m0 m1 m2
    have r0 := hkr.out.cell 0
    have r1 := hkr.out.cell 1
    have r2 := hkr.out.cell 2
    simp only [List.getElem?_cons_zero, List.getElem?_cons_succ] at r0 r1 r2
    go_wp2_with fail
    clear m0 m1 m2 r0 r1 r2 f0 f1 f2 ll lr hkl
    have hq := three_ok hkr.out (.int .u64 0) (.int .i64 0) (.slice none 0 0)
    unfold three at hq
    generalize (((w2.setCell ⟨w.heap.size, 0, none⟩ (.int .u64 0)).setCell ⟨w.heap.size, 1, none⟩ (.int .i64 0)).setCell ⟨w.heap.size, 2, none⟩ (.slice none 0 0)) = W at hq ⊢
    obtain ⟨hqo, hqb⟩ := hq
    have hqb := Lib.hid hqb
    have p0 := hqb.out.cell 0
    have p1 := hqb.out.cell 1
    have p2 := hqb.out.cell 2
    simp only [List.getElem?_cons_zero, List.getElem?_cons_succ] at p0 p1 p2
    refine bodyPost_ret (v := .tuple #[.agg #[.int .u64 0, .int .i64 0, .slice none 0 0], .int .i64 4]) ?_ rfl ?_
    · simp [results, Try.results12, asAddr, Result.andThen, p0, p1, p2, go_sem]
    · exact decOf_none (HH1.out.bel.trans (hqo.below HH1.out.bel.size (fun i hi => by omega))) (by decide) HDEC.out
end Go.Proofs.Ytcjpibdgnjncmaa
