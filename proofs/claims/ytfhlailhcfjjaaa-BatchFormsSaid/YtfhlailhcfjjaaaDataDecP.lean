/- What dataset.Decode reads; a reader and a dataset that grows. -/
import Derived.Test.YtfhlailhcfjjaaaDataEncP
namespace Go.Proofs.Ytfhlailhcfjjaaa
open Go.RowKit
set_option linter.unusedVariables false
set_option linter.unusedSimpArgs false

/-- a reader's state: what is left, the error -/
abbrev RdV := List UInt8 × Int
def rdt (s : RdV) (n : Int) : List UInt8 := takeOut s.1 s.2 n
def rds (s : RdV) (n : Int) : RdV := (takeLeft s.1 s.2 n, takeErr s.1 s.2 n)
theorem rds_len (s : RdV) (n : Int) : (rds s n).1.length ≤ s.1.length := takeLeft_le _ _ _
def i8s (bs : List UInt8) : List Int := bs.map (fun x => IntKind.i8.wrap (x.toNat : Int))
/-- examples, as they are read -/
structure DSt where
  e : Int
  s : RdV
  xs : List (List Int × Int)
def exV (p : List Int × Int) : ExV := ⟨.tuple #[], p.1, p.2⟩
def decStep (h : DatV) (z : DSt) : DSt :=
  let lab : Int := deB (rdt z.s 1)
  let s1 := rds z.s 1
  let dat := i8s (rdt s1 (sizeD h))
  let s2 := rds s1 (sizeD h)
  ⟨if endErr s2.1 s2.2 = 4 then 4 else if oneI h (exV (dat, lab)) = true then z.e else 5, s2, z.xs ++ [(dat, lab)]⟩
def decRun (h : DatV) : Nat → DSt → DSt
  | 0, z => z
  | n + 1, z => if z.e = 0 then decRun h n (decStep h z) else z
/-- the numbers ahead of the examples -/
def decHead (bs : List UInt8) : DatV × Int × RdV :=
  let s1 := rds (bs, 0) 4
  let s2 := rds s1 1
  let s3 := rds s2 1
  let s4 := rds s3 1
  let s5 := rds s4 1
  let s6 := rds s5 1
  (⟨deB (rdt s1 1), deB (rdt s2 1), deB (rdt s3 1), IntKind.i8.wrap (deB (rdt s4 1) : Int), deB (rdt s5 1), .slice none 0 0, []⟩, deB (rdt s6 2), rds s6 2)
def decE (h : DatV × Int × RdV) : Int := if endErr h.2.2.1 h.2.2.2 = 0 ∨ endErr h.2.2.1 h.2.2.2 = 5 then (if headI h.1 h.2.1 = true then 0 else 5) else endErr h.2.2.1 h.2.2.2
def decZ (h : DatV × Int × RdV) : DSt := decRun h.1 h.2.1.toNat ⟨decE h, h.2.2, []⟩
def decEnd (z : DSt) : Int := if z.e = 0 then endErr z.s.1 z.s.2 else z.e
def beginB : List UInt8 := [112, 100, 100, 115]
def badBegin (bs : List UInt8) : Bool := (rdt (bs, 0) 4).length == 4 && rdt (bs, 0) 4 != beginB
/-- what is told: the error; the numbers; the examples -/
def decode (bs : List UInt8) : Int × DatV × List (List Int × Int) :=
  if badBegin bs = true then (5, ⟨0, 0, 0, 0, 0, .slice none 0 0, []⟩, [])
  else if decEnd (decZ (decHead bs)) = 0 then (0, (decHead bs).1, (decZ (decHead bs)).xs) else (decEnd (decZ (decHead bs)), ⟨0, 0, 0, 0, 0, .slice none 0 0, []⟩, [])
theorem decE_zero {h : DatV × Int × RdV} (he : decE h = 0) : headI h.1 h.2.1 = true := by
  unfold decE at he
  by_cases h1 : endErr h.2.2.1 h.2.2.2 = 0 ∨ endErr h.2.2.1 h.2.2.2 = 5
  · rw [if_pos h1] at he
    by_cases h2 : headI h.1 h.2.1 = true
    · exact h2
    · rw [if_neg h2] at he; omega
  · rw [if_neg h1] at he
    exact absurd (.inl he) h1
theorem decRun_ne {h : DatV} {z : DSt} (he : z.e ≠ 0) : ∀ n, decRun h n z = z
  | 0 => rfl
  | n + 1 => by rw [decRun, if_neg he]
theorem oneI_form (d d' : DatV) (x x' : ExV) (ha : d.a = d'.a) (hb : d.b = d'.b) (hc : d.c = d'.c) (hl : d.cl = d'.cl) (hd : x.data = x'.data) (hlab : x.label = x'.label) : oneI d x = oneI d' x' := by
  unfold oneI sizeD
  rw [ha, hb, hc, hl, hd, hlab]
theorem deB_u8 (bs : List UInt8) (e : Int) : deB (takeOut bs e 1) < 256 := by
  have := deB_256 bs e 1
  simpa using this
/-- the memory of Decode: r the told dataset's block (still nothing), q the dataset's, p the reader's; all of it below G -/
structure DecS (w0 w : World) (G r q p : Nat) (A : Option Addr) (c : Nat) (s : RdV) (ds : List Value) (v : Value) (xs : List ExV) : Prop where
  bel : Below w0.heap.size w0 w
  rd : Rd 92 w p A c s.1 s.2
  res : Blk w r 33 [.int .i64 0, .int .i64 0, .int .i64 0, .int .i64 0, .int .i64 0, .slice none 0 0]
  blk : Blk w q 33 (ds ++ [v])
  own : w.ownsRow w0.heap.size 45 2 v xs.length (xs.flatMap ExV.cells)
  exs : ∀ e ∈ xs, w.ownsRow w0.heap.size 52 1 e.dv e.data.length (ints .i8 e.data) ∧ ∀ k, e.dv.ownBlock = some k → k < G ∧ k ≠ p ∧ k ≠ q ∧ v.ownBlock ≠ some k ∧ k ≠ r
  lo : w0.heap.size ≤ r ∧ w0.heap.size ≤ q ∧ w0.heap.size ≤ p
  hi : r < G ∧ q < G ∧ p < G ∧ G ≤ w.heap.size ∧ ∀ k, v.ownBlock = some k → k < G
  ap : r ≠ q ∧ r ≠ p ∧ q ≠ p
  vb : v.ownBlock ≠ some r ∧ v.ownBlock ≠ some q ∧ v.ownBlock ≠ some p
  lA : 0 < s.1.length → ∀ a, A = some a → a.block < G ∧ a.block ≠ q ∧ v.ownBlock ≠ some a.block
section
variable {w0 w w' : World} {G G' r q p : Nat} {A A' : Option Addr} {c c' : Nat} {s s' : RdV} {ds : List Value} {v v' : Value} {xs : List ExV}
/-- what lies above G may turn -/
theorem DecS.aside {S : Nat → Prop} (h : DecS w0 w G r q p A c s ds v xs) (ho : Off S w w') (hS : ∀ i, S i → G ≤ i) : DecS w0 w' G r q p A c s ds v xs := by
  have hsz := h.bel.size
  have hlo := h.lo
  have hhi := h.hi
  have hn : ∀ i, i < G → ¬ S i := fun i hi hs => by have := hS i hs; omega
  refine ⟨h.bel.trans (ho.below hsz (fun i hi => by have := hS i hi; omega)), h.rd.off ho (hn p hhi.2.2.1) (fun h0 a ha => hn _ (h.lA h0 a ha).1), h.res.off ho (hn r hhi.1), h.blk.off ho (hn q hhi.2.1), own_off h.own ho (fun k hk => hn k (hhi.2.2.2.2 k hk)), fun e he => ⟨own_off (h.exs e he).1 ho (fun k hk => hn k ((h.exs e he).2 k hk).1), (h.exs e he).2⟩, hlo, ⟨hhi.1, hhi.2.1, hhi.2.2.1, ?_, hhi.2.2.2.2⟩, h.ap, h.vb, h.lA⟩
  have := ho.size
  omega
theorem DecS.below (h : DecS w0 w G r q p A c s ds v xs) (hb : Below w.heap.size w w') : DecS w0 w' G r q p A c s ds v xs :=
  h.aside (S := fun i => w.heap.size ≤ i) (Off.of_below hb (fun i hi => .inl hi)) (fun i hi => by have := h.hi.2.2.2.1; omega)
theorem DecS.more (h : DecS w0 w G r q p A c s ds v xs) (hG : G ≤ G') (hw : G' ≤ w.heap.size) : DecS w0 w G' r q p A c s ds v xs := by
  have hhi := h.hi
  exact ⟨h.bel, h.rd, h.res, h.blk, h.own, fun e he => ⟨(h.exs e he).1, fun k hk => by have := (h.exs e he).2 k hk; exact ⟨by omega, this.2⟩⟩, h.lo, ⟨by omega, by omega, by omega, hw, fun k hk => by have := hhi.2.2.2.2 k hk; omega⟩, h.ap, h.vb, fun h0 a ha => by have := h.lA h0 a ha; exact ⟨by omega, this.2⟩⟩
theorem DecS.alloc (h : DecS w0 w G r q p A c s ds v xs) (o : Obj) : DecS w0 (w.alloc o) G r q p A c s ds v xs := h.below ((Below.refl _ w).alloc (Nat.le_refl _) o)
theorem DecS.drew (h : DecS w0 w G r q p A c s ds v xs) : DecS w0 w.drew G r q p A c s ds v xs := h.below (Below.refl _ w).drew
/-- the reader goes on -/
theorem DecS.read (h : DecS w0 w G r q p A c s ds v xs) (hr : Rd 92 w' p A' c' s'.1 s'.2) (hA : ∀ a, A' = some a → ∃ b, A = some b ∧ b.block = a.block) (ho : Off (fun i => i = p) w w') (hl : s'.1.length ≤ s.1.length) : DecS w0 w' G r q p A' c' s' ds v xs := by
  have hsz := h.bel.size
  have hlo := h.lo
  have hhi := h.hi
  have hap := h.ap
  refine ⟨h.bel.trans (ho.below hsz (fun i hi => by omega)), hr, h.res.off ho hap.2.1, h.blk.off ho hap.2.2, own_off h.own ho (fun k hk e => h.vb.2.2 (by rw [hk, e])), fun e he => ⟨own_off (h.exs e he).1 ho (fun k hk => ((h.exs e he).2 k hk).2.1), (h.exs e he).2⟩, hlo, ⟨hhi.1, hhi.2.1, hhi.2.2.1, ?_, hhi.2.2.2.2⟩, hap, h.vb, fun h0 a ha => ?_⟩
  · have := ho.size; omega
  · obtain ⟨b, hb, e⟩ := hA a ha
    rw [← e]
    exact h.lA (by omega) b hb
/-- an example is put behind -/
theorem DecS.push (h : DecS w0 w G r q p A c s ds v xs) {w1 : World} {x : ExV} (hd : ds.length = 5) (hx : w.ownsRow w0.heap.size 52 1 x.dv x.data.length (ints .i8 x.data)) (hx2 : ∀ k, x.dv.ownBlock = some k → G ≤ k)
    (ho : w1.ownsRow w0.heap.size 45 2 v' (xs ++ [x]).length ((xs ++ [x]).flatMap ExV.cells)) (hg : w.grownBy w1 v.ownBlock) (hf : Fresh w v v') :
    DecS w0 (w1.setCell ⟨q, 5, none⟩ v') w1.heap.size r q p A c s ds v' (xs ++ [x]) := by
  have hsz := h.bel.size
  have hlo := h.lo
  have hhi := h.hi
  have hap := h.ap
  have hvb := h.vb
  have hof : Off (fun i => i = q ∨ v.ownBlock = some i) w (w1.setCell ⟨q, 5, none⟩ v') := ((Off.refl _ w).grown hg (fun k hk => .inl (.inr hk))).setCell (p := ⟨q, 5, none⟩) (.inl (.inl rfl)) _
  have hg1 : w.heap.size ≤ w1.heap.size := hg.size
  have hv' : ∀ k, v'.ownBlock = some k → k < G → v.ownBlock = some k := fun k hk hlt => by
    rcases hf.off hk with e | e
    · exact e
    · omega
  have hlt' : ∀ k, v'.ownBlock = some k → k < w1.heap.size := fun k hk => (ho.lt k hk).2
  have hn : ∀ i, i ≠ q → v.ownBlock ≠ some i → ¬ (i = q ∨ v.ownBlock = some i) := fun i h1 h2 h3 => by rcases h3 with e | e; exact h1 e; exact h2 e
  refine ⟨h.bel.trans (hof.below hsz (fun i hi => ?_)), h.rd.off hof (hn p (Ne.symm hap.2.2) hvb.2.2) (fun h0 a ha => hn _ (h.lA h0 a ha).2.1 (h.lA h0 a ha).2.2), h.res.off hof (hn r hap.1 hvb.1), ?_, ?_, fun e he => ?_, hlo, ⟨by omega, by omega, by omega, by simp [World.setCell], hlt'⟩, hap, ⟨fun e => hvb.1 (hv' _ e (by omega)), fun e => hvb.2.1 (hv' _ e (by omega)), fun e => hvb.2.2 (hv' _ e (by omega))⟩, fun h0 a ha => ?_⟩
  · rcases hi with e | e
    · omega
    · exact (h.own.lt i e).1
  · have hk1 := h.blk.grown hg (Ne.symm hvb.2.1)
    have hk2 := hk1.put 5 v'
    have e : (ds ++ [v]).set 5 v' = ds ++ [v'] := by
      match ds, hd with
      | [_, _, _, _, _], _ => rfl
    rwa [e] at hk2
  · exact own_off ho ((Off.refl (fun i => i = q) w1).setCell (p := ⟨q, 5, none⟩) (.inl rfl) v') (fun k hk e => hvb.2.1 (hv' _ (by rw [hk, e]) (by omega)))
  · rw [List.mem_append, List.mem_singleton] at he
    rcases he with he | rfl
    · obtain ⟨h1, h2⟩ := h.exs e he
      refine ⟨own_off h1 hof (fun k hk => ?_), fun k hk => ?_⟩
      · exact hn k (h2 k hk).2.2.1 (h2 k hk).2.2.2.1
      · have := h2 k hk
        exact ⟨by omega, this.2.1, this.2.2.1, fun e => this.2.2.2.1 (hv' _ e (by omega)), this.2.2.2.2⟩
    · refine ⟨own_off hx hof (fun k hk => ?_), fun k hk => ?_⟩
      · have := hx2 k hk
        exact hn k (by omega) (fun e => by have := hhi.2.2.2.2 k e; omega)
      · have h1 := hx2 k hk
        have h2 := (hx.lt k hk).2
        refine ⟨by omega, by omega, by omega, fun e => ?_, by omega⟩
        rcases hf.off e with e | e
        · have := hhi.2.2.2.2 k e; omega
        · omega
  · have := h.lA h0 a ha
    exact ⟨by omega, this.2.1, fun e => this.2.2 (hv' _ e (by omega))⟩
/-- the memory ahead of the dataset -/
structure DecH (w0 w : World) (r p : Nat) (A : Option Addr) (c : Nat) (s : RdV) : Prop where
  bel : Below w0.heap.size w0 w
  rd : Rd 92 w p A c s.1 s.2
  res : Blk w r 33 [.int .i64 0, .int .i64 0, .int .i64 0, .int .i64 0, .int .i64 0, .slice none 0 0]
  lo : w0.heap.size ≤ r ∧ w0.heap.size ≤ p
  ap : r ≠ p
theorem DecH.read (h : DecH w0 w r p A c s) (hr : Rd 92 w' p A' c' s'.1 s'.2) (ho : Off (fun i => i = p) w w') : DecH w0 w' r p A' c' s' := by
  have hlo := h.lo
  exact ⟨h.bel.trans (ho.below h.bel.size (fun i hi => by omega)), hr, h.res.off ho h.ap, hlo, h.ap⟩
theorem DecH.start (h : DecH w0 w r p A c s) (ds : List Value) (cs : Array Value) (hc : cs.toList = ds ++ [.slice none 0 0]) : DecS w0 (w.alloc (.cells cs 33)) (w.heap.size + 1) r w.heap.size p A c s ds (.slice none 0 0) [] := by
  have hlo := h.lo
  have hap := h.ap
  have hsz := h.bel.size
  have h1 := h.res.lt
  have h2 := h.rd.blk.lt
  have hb := (Below.refl w.heap.size w).alloc (Nat.le_refl _) (.cells cs 33)
  refine ⟨h.bel.trans (hb.mono hsz), h.rd.below hb, h.res.below hb h1, ?_, World.ownsRow_nil _ _ _ _, fun e he => absurd he (by simp), ⟨hlo.1, hsz, hlo.2⟩, ⟨by omega, by omega, by omega, by simp, by simp [Value.ownBlock]⟩, ⟨by omega, hap, by omega⟩, by simp [Value.ownBlock], fun h0 a ha => ?_⟩
  · have := Blk.fresh w 33 (ds ++ [.slice none 0 0])
    rw [← hc] at this ⊢
    simpa using this
  · obtain ⟨A9, n9, c9, e9, l9, _, _, at9⟩ := h.rd.rd
    rw [length_bytesV] at l9
    injection e9 with e1 e2 e3
    obtain ⟨g, o, hA9, hg, _⟩ := at9.out (by omega)
    rw [← e1, ha] at hA9
    injection hA9 with hA9
    subst hA9
    exact ⟨by simp only; omega, by simp only; omega, by simp [Value.ownBlock]⟩
end
end Go.Proofs.Ytfhlailhcfjjaaa
