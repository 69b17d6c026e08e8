/- Contract of pedagoguelaw6.awake. -/
import Derived.Test.YtjddplddpdcmdaaJrCommit
namespace Go.Proofs.Ytjddplddpdcmdaa
open Go.RowKit
set_option linter.unusedVariables false
set_option linter.unusedSimpArgs false

theorem run_strJ {w : World} {B : Nat} {v : Value} {bs : List UInt8} (h : Reads w B v (bytesV bs)) : (convert 31 9 v).run Try.prog w = .ok (.string ⟨bs.toArray⟩) w :=
  run_string _ _ 5 Try.underlying31 Try.underlying5 Try.underlying9 h
theorem reads_constIn (w : World) (bs : List UInt8) (e : TypeId) (k : Nat × Nat) (C : Array Value) (n : Nat) (hn : n = bs.length) (hC : C.toList = bytesV bs) (hm : bs.length ≤ maxLen) :
    ReadsIn 1 (fun i => w.heap.size ≤ i) (w.alloc (.cells C e k)) (.slice (some ⟨w.heap.size, 0, none⟩) n n) (bytesV bs) := by
  obtain ⟨A, m, c, e1, hl, hc, hm', ha⟩ := reads_const w bs e k C n hn hC hm
  injection e1 with e1 e2 e3
  subst e1 e2 e3
  refine ⟨_, _, _, rfl, by omega, hc, hm', fun h0 => ?_⟩
  obtain ⟨g, o, e, hg, hx⟩ := ha.out h0
  injection e with e
  injection e with e1 e2
  subst e1 e2
  exact ⟨_, _, rfl, Nat.le_refl _, by simp, hx⟩
section
variable {w0 w W W' : World} {ds ds' : List (Nat × Dk)} {bs bs' : List (Nat × TypeId × List Value)} {rs rs' rs0 : List (Nat × Value × List Value)} {d q g k n sz : Nat} {s s' : Dk} {j j' : Jr} {v u : Value} {t : TypeId} {cs xs : List Value}
theorem JD.read (h : JD w0 W ds d s q j bs rs) (hb : Below W.heap.size W W') (hr : ReadsIn sz (fun i => W.heap.size ≤ i) W' v xs) : JD w0 W' ds d s q j bs ((sz, v, xs) :: rs) := by
  obtain ⟨lv, h1, h2, h3⟩ := h
  exact ⟨lv, h1.read hb hr, .tail _ h2, h3⟩
theorem Dk.crash_len (h : s.Ok) (l : List UInt8) : (s.crash l).now.length = s.now.length := by
  have := crashI_ok s.log l s.sure h.log ⟨h.len, h.sure⟩
  show (crashI s.log l s.sure).length = s.now.length
  rw [this.1]
theorem jd_crash (h : JD w0 W ds d s q j bs rs) (v : Value) (x : List UInt8) (ha : ArgM w0 bs rs v x) :
    Calls Try.prog 22 #[.pointer (some ⟨d, 0, none⟩), v] W fun en W' => en = .returned (.tuple #[]) ∧ JD w0 W' ds d (s.crash x) q j bs rs := by
  obtain ⟨lv, h1, h2, h3⟩ := h
  have hl := Dk.crash_len h1.ok x
  exact (dm_crash h1 v x (ha.mono (fun y hy => .tail _ hy) (fun y hy => hy))).mono fun en W' ⟨he, h⟩ => ⟨he, lv, h, h2, by rw [hl]; exact h3⟩
end
def ja0 : Dk := Dk.new 8
def ja1 : Dk × Int × Jr := openJ ja0
def ja2 : Jr × Dk × Int := commitJ ja1.2.2 ja1.1 [97, 98]
def ja3 : Dk := ja2.2.1.crash []
def ja4 : Dk × Int × Jr := openJ ja3
theorem ja1_e : ja1.2.1 = 0 := by decide +kernel
theorem ja2_e : ja2.2.2 = 0 := by decide +kernel
theorem ja4_e : ja4.2.1 = 0 := by decide +kernel
theorem ja4_l : lastJ ja4.2.2 = [97, 98] := by decide +kernel
theorem ja4_g : ja4.2.2.gen = 1 := by decide +kernel
theorem ja0_o : ja0.ops = 0 := by decide +kernel
theorem ja1_o : ja1.1.ops < 900000000 := by decide +kernel
theorem ja3_o : ja3.ops < 900000000 := by decide +kernel
set_option maxHeartbeats 3200000 in
set_option maxRecDepth 100000 in
theorem awake6_any (w : World) : Calls Try.prog 14 #[] w fun en w' => en = .returned (.bool true) ∧ Below w.heap.size w w' := by
  have E1 := Lib.hid ja1_e
  have E2 := Lib.hid ja2_e
  have E4 := Lib.hid ja4_e
  have L4 := Lib.hid ja4_l
  have G4 := Lib.hid ja4_g
  have O0 := Lib.hid ja0_o
  have O1 := Lib.hid ja1_o
  have O3 := Lib.hid ja3_o
  have HN : Hid (∀ W, DM w W [] [] [] → Calls Try.prog 10 #[.int .i64 8] W fun en W' => ∃ q, en = .returned (.pointer (some ⟨q, 0, none⟩)) ∧ DM w W' [(q, ja0)] [] []) := Lib.hid (fun W h => dm_new h 8 8 (by decide))
  obtain ⟨s0, h0⟩ : ∃ s, ja0 = s := ⟨_, rfl⟩
  have HO1 : Hid (openJ s0 = ja1) := Lib.hid (by rw [← h0]; rfl)
  rw [h0] at HN O0
  obtain ⟨⟨s1, e1, j1⟩, h1⟩ : ∃ s, ja1 = s := ⟨_, rfl⟩
  have HO2 : Hid (commitJ j1 s1 [97, 98] = ja2) := Lib.hid (by unfold ja2; rw [h1])
  rw [h1] at HO1 E1 O1
  obtain ⟨⟨j2, s2, e2⟩, h2⟩ : ∃ s, ja2 = s := ⟨_, rfl⟩
  have HO3 : Hid (s2.crash [] = ja3) := Lib.hid (by unfold ja3; rw [h2])
  rw [h2] at HO2 E2
  obtain ⟨s3, h3⟩ : ∃ s, ja3 = s := ⟨_, rfl⟩
  have HO4 : Hid (openJ s3 = ja4) := Lib.hid (by unfold ja4; rw [h3])
  rw [h3] at HO3 O3
  obtain ⟨⟨s4, e4, j4⟩, h4⟩ : ∃ s, ja4 = s := ⟨_, rfl⟩
  rw [h4] at HO4 E4 L4 G4
  simp only at E1 E2 E4 L4 G4 O1
  have z1 : e1 = 0 := E1.out
  have z2 : e2 = 0 := E2.out
  have z4 : e4 = 0 := E4.out
  subst z1 z2 z4
  clear h0 h1 h2 h3 h4 E1 E2 E4
  go_enter Try.func14, Try.ntmps14
  go_wp2_with fail
  refine (HN.out w (DM.start w)).mono ?_
  rintro en w1 ⟨d, rfl, h⟩
  have D1 := Lib.hid h
  clear h HN
  go_wp2_with fail
  refine (jopen_any D1.out (by rw [O0.out]; decide)).mono ?_
  rw [HO1.out]
  rintro en w2 h
  rcases h with ⟨h, _⟩ | ⟨_, q, rs1, rfl, _, hj⟩
  · exact absurd rfl h
  have J1 := Lib.hid hj
  clear hj D1
  have kc := Lib.run_convert_bytes_const (P := Try.prog) w2 31 5 #[.int .u8 97, .int .u8 98] 2 2 Try.underlying31 Try.underlying5
  have hk := reads_constIn w2 [97, 98] 5 (2, 3) #[.int .u8 97, .int .u8 98] 2 rfl rfl (by decide)
  simp only [List.size_toArray, List.length_cons, List.length_nil, Nat.zero_add, Nat.reduceAdd] at kc
  have J2 := Lib.hid (J1.out.read ((Below.refl _ w2).alloc (Nat.le_refl _) _) hk)
  clear hk J1
  dsimp only
  go_wp2_with fail
  refine (jcommit_any J2.out O1.out _ [97, 98] (.inr (.inr (.head _))) (by decide)).mono ?_
  rw [HO2.out]
  rintro en w3 ⟨rfl, rs2, _, hj⟩
  have J3 := Lib.hid hj
  clear hj J2 kc
  go_wp2_with fail
  refine (jd_crash J3.out (.slice none 0 0) [] (.inl (Reads.nil_ _ _))).mono ?_
  rw [HO3.out]
  rintro en w4 ⟨rfl, hj⟩
  have D4 := Lib.hid hj.dm
  clear hj J3
  go_wp2_with fail
  refine (jopen_any D4.out (by have := O3.out; omega)).mono ?_
  rw [HO4.out]
  rintro en w5 h
  rcases h with ⟨h, _⟩ | ⟨_, q5, rs5, rfl, _, hj⟩
  · exact absurd rfl h
  have J5 := Lib.hid hj
  clear hj D4
  dsimp only
  go_wp2_with fail
  refine (jlast_any J5.out).mono ?_
  rw [L4.out, G4.out]
  rintro en w6 ⟨A6, n6, c6, rfl, hb, hr⟩
  have J6 := Lib.hid (J5.out.below hb)
  have s6 := run_strJ hr.reads
  clear hb hr J5
  dsimp only
  go_wp2_with fail
  refine (jgen_any J6.out).mono ?_
  rw [G4.out]
  rintro en w7 ⟨rfl, rfl⟩
  go_wp2
  go_ret
  exact ⟨rfl, J6.out.bel⟩
end Go.Proofs.Ytjddplddpdcmdaa
