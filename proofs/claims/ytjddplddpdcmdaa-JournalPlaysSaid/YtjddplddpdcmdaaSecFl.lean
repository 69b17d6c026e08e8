/- Contracts of sector.Disk's Flush and Crash. -/
import Derived.Test.YtjddplddpdcmdaaSecRW
namespace Go.Proofs.Ytjddplddpdcmdaa
open Go.RowKit
set_option linter.unusedVariables false
set_option linter.unusedSimpArgs false

section
variable {B p : Nat} {O S : Nat → Prop} {w w' w5 : World} {s s' : Dk} {nv sv lv lv' : Value}
theorem DAt.sured (h : DAt B w p nv sv lv s) (ho : Off (fun i => sv.ownBlock = some i) w w') (hown : w'.ownsRow B 74 64 sv s'.sure.length (s'.sure.flatMap bytesV)) (hok : s'.Ok) (e1 : s'.now = s.now) (e2 : s'.log = s.log) (e3 : s'.ops = s.ops) (e4 : s'.fuse = s.fuse) (e5 : s'.down = s.down) : DAt B w' p nv sv lv s' := by
  have hb := h.blk.off ho h.sp
  refine ⟨by simpa [e3, e4, e5] using hb, ?_, hown, ?_, h.pB, h.np, h.sp, h.lp, h.ns, h.nl, h.sl, hok⟩
  · rw [e1]; exact own_off h.now ho (fun i hi e => h.ns i hi e)
  · rw [e2]; exact own_off h.log ho (fun i hi e => h.sl i e hi)
theorem DAt.nowed (h : DAt B w p nv sv lv s) (ho : Off (fun i => nv.ownBlock = some i) w w') (hown : w'.ownsRow B 74 64 nv s'.now.length (s'.now.flatMap bytesV)) (hok : s'.Ok) (e1 : s'.sure = s.sure) (e2 : s'.log = s.log) (e3 : s'.ops = s.ops) (e4 : s'.fuse = s.fuse) (e5 : s'.down = s.down) : DAt B w' p nv sv lv s' := by
  have hb := h.blk.off ho h.np
  refine ⟨by simpa [e3, e4, e5] using hb, hown, ?_, ?_, h.pB, h.np, h.sp, h.lp, h.ns, h.nl, h.sl, hok⟩
  · rw [e1]; exact own_off h.sure ho (fun i hi e => h.ns i e hi)
  · rw [e2]; exact own_off h.log ho (fun i hi e => h.nl i e hi)
theorem DAt.cleared (h : DAt B w p nv sv lv s) : DAt B (w.setCell ⟨p, 2, none⟩ (.slice none 0 0)) p nv sv (.slice none 0 0) { s with log := [] } := by
  have ho : Off (fun i => i = p) w (w.setCell ⟨p, 2, none⟩ (.slice none 0 0)) := (Off.refl (fun i => i = p) w).setCell (p := ⟨p, 2, none⟩) (.inl rfl) _
  exact ⟨by simpa using h.blk.put 2 (.slice none 0 0), own_off h.now ho (fun k hk e => h.np (by rw [hk, e])), own_off h.sure ho (fun k hk e => h.sp (by rw [hk, e])), ownsRow_none _ _ _ _, h.pB, h.np, h.sp, fun e => (by cases e), h.ns, fun _ _ e => (by cases e), fun _ _ e => (by cases e),
    ⟨h.ok.len, h.ok.most, h.ok.now, h.ok.sure, fun e he => (by cases he), h.ok.ops0, (by simpa using h.ok.ops0)⟩⟩
set_option maxHeartbeats 800000 in
set_option maxRecDepth 100000 in
theorem sflush_any (h : DiskIs B O w p s) (ho : s.ops < 1000000000) : Calls Try.prog 33 #[.pointer (some ⟨p, 0, none⟩)] w fun en w' => en = .returned (.int .i64 s.flush.2) ∧ Did B O w p s.flush.1 w' := by
  obtain ⟨dn, hdn⟩ : ∃ d, s.oper.down = d := ⟨_, rfl⟩
  have HOP := Lib.hid (soper_any h (by omega))
  rw [hdn] at HOP
  cases dn with
  | true =>
    have HW : Hid (s.flush = (s.oper, 9)) := Lib.hid (by unfold Dk.flush; rw [if_pos hdn])
    clear h hdn
    go_enter Try.func33, Try.ntmps33
    go_wp2_with (go_at_call 37; refine HOP.out.mono ?_; rintro en w2 ⟨rfl, hdid⟩; have HDID := Lib.hid hdid; clear hdid)
    go_ret
    rw [HW.out]
    exact ⟨rfl, HDID.out⟩
  | false =>
    have HW : Hid (s.flush = (s.oper.flushed, 0)) := Lib.hid (by unfold Dk.flush; rw [if_neg (by rw [hdn]; simp)])
    have HOK : Hid (s.oper.flushed).Ok := Lib.hid (Dk.flushed_ok h.ok)
    clear h hdn
    go_enter Try.func33, Try.ntmps33
    go_wp2_with fail
    refine HOP.out.mono ?_
    rintro en w1 ⟨rfl, hdid⟩
    have HDID := Lib.hid hdid
    obtain ⟨nv, sv, lv, hd, hO⟩ := hdid.is
    obtain ⟨An, cn, rfl⟩ := own_form hd.now
    obtain ⟨As, cs, rfl⟩ := own_form hd.sure
    have c0 := hd.blk.cell 0
    have c1 := hd.blk.cell 1
    simp only [List.getElem?_cons_zero, List.getElem?_cons_succ] at c0 c1
    have HD := Lib.hid hd
    have HOO := Lib.hid hO
    clear hdid hd hO
    go_upto_region 5 with fail
    refine wp_region_held_drew (S := (fun w' => w'.cell? ⟨p, 1, none⟩ = some (.slice As s.oper.sure.length cs) ∧ w'.cell? ⟨p, 0, none⟩ = some (.slice An s.oper.now.length cn))) (by kernel_rfl) (⟨c1, c0⟩) (fun hHeld => ?_)
    refine' wpAnyH_take (i := 0) (v := _) rfl (by kernel_rfl) (by kernel_rfl) (by kernel_rfl) (fun _ _ _ h => h) (Or.inl ⟨by rfl, ?taq1⟩) (by assumption) ?tbq1
    case taq1 =>
      intro wS hSw
      (try dsimp only at hSw)
      go_simp
      (try (with_reducible rfl))
    (try simp only [List.getElem_toArray, List.getElem_cons_zero, List.getElem_cons_succ, Act.put, List.setIfInBounds_toArray, List.set_cons_zero, List.set_cons_succ])
    refine' wpAnyH_take (i := 1) (v := _) rfl (by kernel_rfl) (by kernel_rfl) (by kernel_rfl) (fun _ _ _ h => h) (Or.inl ⟨by rfl, ?taq2⟩) (by assumption) ?tbq2
    case taq2 =>
      intro wS hSw
      (try dsimp only at hSw)
      go_simp
      (try (with_reducible rfl))
    (try simp only [List.getElem_toArray, List.getElem_cons_zero, List.getElem_cons_succ, Act.put, List.setIfInBounds_toArray, List.set_cons_zero, List.set_cons_succ])
    refine' wpAnyH_take (i := 2) (v := _) rfl (by kernel_rfl) (by kernel_rfl) (by kernel_rfl) (fun _ _ _ h => h) (Or.inl ⟨by rfl, ?taq3⟩) (by assumption) ?tbq3
    case taq3 =>
      intro wS hSw
      (try dsimp only at hSw)
      go_simp
      (try (with_reducible rfl))
    (try simp only [List.getElem_toArray, List.getElem_cons_zero, List.getElem_cons_succ, Act.put, List.setIfInBounds_toArray, List.set_cons_zero, List.set_cons_succ])
    refine' wpAnyH_take (i := 3) (v := _) rfl (by kernel_rfl) (by kernel_rfl) (by kernel_rfl) (fun _ _ _ h => h) (Or.inl ⟨by rfl, ?taq4⟩) (by assumption) ?tbq4
    case taq4 =>
      intro wS hSw
      (try dsimp only at hSw)
      go_simp
      (try (with_reducible rfl))
    (try simp only [List.getElem_toArray, List.getElem_cons_zero, List.getElem_cons_succ, Act.put, List.setIfInBounds_toArray, List.set_cons_zero, List.set_cons_succ])
    refine' wpAnyH_take (i := 4) (v := _) rfl (by kernel_rfl) (by kernel_rfl) (by kernel_rfl) (fun _ _ _ h => h) (Or.inl ⟨by rfl, ?taq5⟩) (by assumption) ?tbq5
    case taq5 =>
      intro wS hSw
      (try dsimp only at hSw)
      go_simp
      (try (with_reducible rfl))
    (try simp only [List.getElem_toArray, List.getElem_cons_zero, List.getElem_cons_succ, Act.put, List.setIfInBounds_toArray, List.set_cons_zero, List.set_cons_succ])
    refine' wpAnyH_take (i := 5) (v := _) rfl (by kernel_rfl) (by kernel_rfl) (by kernel_rfl) (fun _ _ _ h => h) (Or.inl ⟨by rfl, ?taq6⟩) (by assumption) ?tbq6
    case taq6 =>
      intro wS hSw
      (try dsimp only at hSw)
      go_simp
      (try (with_reducible rfl))
    (try simp only [List.getElem_toArray, List.getElem_cons_zero, List.getElem_cons_succ, Act.put, List.setIfInBounds_toArray, List.set_cons_zero, List.set_cons_succ])
    refine' wpAnyH_take (i := 6) (v := _) rfl (by kernel_rfl) (by kernel_rfl) (by kernel_rfl) (fun _ _ _ h => h) (Or.inl ⟨by rfl, ?taq7⟩) (by assumption) ?tbq7
    case taq7 =>
      intro wS hSw
      (try dsimp only at hSw)
      go_simp
      (try (with_reducible rfl))
    (try simp only [List.getElem_toArray, List.getElem_cons_zero, List.getElem_cons_succ, Act.put, List.setIfInBounds_toArray, List.set_cons_zero, List.set_cons_succ])
    refine' wpAnyH_take (i := 7) (v := _) rfl (by kernel_rfl) (by kernel_rfl) (by kernel_rfl) (fun _ _ _ h => h) (Or.inl ⟨by rfl, ?taq8⟩) (by assumption) ?tbq8
    case taq8 =>
      intro wS hSw
      (try dsimp only at hSw)
      go_simp
      (try (with_reducible rfl))
    (try simp only [List.getElem_toArray, List.getElem_cons_zero, List.getElem_cons_succ, Act.put, List.setIfInBounds_toArray, List.set_cons_zero, List.set_cons_succ])
    refine wpAnyH_ready (rs := [8]) (by kernel_rfl) (by simp) ?_
    refine AllReadyH.cons rfl (fun K9 hK9 => ?_) AllReadyH.nil
    have hsu := HD.out.sure
    rw [HD.out.ok.len] at hsu
    (try simp only [List.getElem_toArray, List.getElem_cons_zero, List.getElem_cons_succ])
    rw [if_pos (by rfl)]
    refine wp_copy_rows (w := w1.drew) elem_sec (.tmp 11) (.tmp 15) (by rfl) (B := B) (B' := B) (n := s.oper.now.length) (.slice As s.oper.sure.length cs) (.slice An s.oper.now.length cn) (by rfl) (by rfl) (by rw [HD.out.ok.len]; exact hsu) HD.out.now (rows_one _) ?_
    intro w5 hown5 hof5
    have hof : Off (fun i => (Value.slice As s.oper.sure.length cs).ownBlock = some i) w1 w5 := ((Off.refl (fun _ => False) w1).drew.mono (fun _ h => h.elim)).trans hof5 (fun i hi => .inl hi)
    have HOF := Lib.hid hof
    have HD5 := Lib.hid (HD.out.sured (s' := { s.oper with sure := s.oper.now }) hof hown5 ⟨rfl, HD.out.ok.most, HD.out.ok.now, HD.out.ok.now, HD.out.ok.log, HD.out.ok.ops0, HD.out.ok.logs⟩ rfl rfl rfl rfl rfl)
    have y0 := HD5.out.blk.cell 0
    have y1 := HD5.out.blk.cell 1
    have y2 := HD5.out.blk.cell 2
    have z2 := HD5.out.blk.free 2
    simp only [List.getElem?_cons_zero, List.getElem?_cons_succ] at y0 y1 y2
    clear hsu hown5 hof5 hof c0 c1
    refine hK9.out _ _ (⟨y1, y0⟩) (fun hHeld9 => ?_)
    clear hK9 K9
    (try simp only [List.getElem_toArray, List.getElem_cons_zero, List.getElem_cons_succ, Act.put, List.setIfInBounds_toArray, List.set_cons_zero, List.set_cons_succ])
    refine wpAnyH_done (by kernel_rfl) ?_ _
    go_wp2
    go_ret
    rw [HW.out]
    have hm : ∀ i, Own p (.slice An s.oper.now.length cn) (.slice As s.oper.sure.length cs) lv i → O i ∨ w.heap.size ≤ i := fun i h => by
      rcases HOO.out i h with h1 | h1
      · exact .inl h1
      · exact .inr h1.1
    refine ⟨rfl, DAt.did (s := s.oper.flushed) HD5.out.cleared (fun i hi => ?_) ?_⟩
    · rcases hi with h1 | h1 | h1 | h1
      · exact hm i (.inl h1)
      · exact hm i (.inr (.inl h1))
      · exact hm i (.inr (.inr (.inl h1)))
      · cases h1
    · exact (HDID.out.off.trans HOF.out (fun i hi => hm i (.inr (.inr (.inl hi))))).setCell (p := ⟨p, 2, none⟩) (hm p (.inl rfl)) _
end

theorem flat_setPart {α : Type} (f : α → List Value) (sz : Nat) (l : List α) (h : ∀ q ∈ l, (f q).length = sz) (i : Nat) (q : α) (hq : l[i]? = some q) (u : List Value) (hu : u.length ≤ sz) (x : α) (hx : f x = u ++ (f q).drop u.length) :
    (l.flatMap f).take (i * sz) ++ u ++ (l.flatMap f).drop (i * sz + u.length) = (l.set i x).flatMap f := by
  have hi := (List.getElem?_eq_some_iff.1 hq).1
  have hl := h q (List.mem_of_getElem? hq)
  have ht := flat_takeD f sz l h i (by omega)
  have h1 : (l.flatMap f).take (i * sz) = (l.take i).flatMap f := by
    rw [flat_split f sz l h i q hq, List.append_assoc, List.take_left' ht]
  have h2 : (l.flatMap f).drop (i * sz + u.length) = (f q).drop u.length ++ (l.drop (i + 1)).flatMap f := by
    rw [flat_split f sz l h i q hq, List.append_assoc, ← List.drop_drop, List.drop_left' ht, List.drop_append_of_le_length (by omega)]
  rw [h1, h2, List.set_eq_take_append_cons_drop, if_pos hi, List.flatMap_append, List.flatMap_cons, hx]
  simp
theorem own_setPart {w : World} {B n c g : Nat} {e : TypeId} {l : List (List UInt8)} (hown : w.ownsRow B e 64 (.slice (some ⟨g, 0, none⟩) n c) n (l.flatMap bytesV)) (h : ∀ b ∈ l, b.length = 64) (hn : l.length = n) {i : Nat} (hi : i < n) (u : List UInt8) (hu : u.length = 32) :
    (w.setCells g (i * 64) (bytesV u)).ownsRow B e 64 (.slice (some ⟨g, 0, none⟩) n c) n ((l.set i (u ++ (l.getD i []).drop 32)).flatMap bytesV) := by
  obtain ⟨g', cap, rest, e', hb, hlt, hnc, hcm, hlen, hxl, hblk⟩ := own_blkN hown (by omega)
  injection e' with e1 e2 e3
  injection e1 with e1
  injection e1 with e1
  subst e1 e3
  obtain ⟨q, hq⟩ : ∃ q, l[i]? = some q := ⟨l[i], List.getElem?_eq_getElem (by omega)⟩
  have hql := h q (List.mem_of_getElem? hq)
  have hgd : l.getD i [] = q := by rw [List.getD_eq_getElem?_getD, hq]; rfl
  have hle : i * 64 + 64 ≤ n * 64 := by omega
  have hub : (bytesV u).length = 32 := by rw [length_bytesV, hu]
  have hb2 := Blk.setCells (bytesV u) (i * 64) hblk (by rw [List.length_append, hxl, hub]; omega)
  rw [List.take_append_of_le_length (by omega), hub, List.drop_append_of_le_length (by omega), ← List.append_assoc] at hb2
  have hf := flat_setPart bytesV 64 l (secs_len h) i q hq (bytesV u) (by omega) (u ++ (l.getD i []).drop 32) (by rw [hgd, hub, ← bytesV_append, bytesV_drop])
  rw [hub] at hf
  rw [hf] at hb2
  have hfl : ((l.set i (u ++ (l.getD i []).drop 32)).flatMap bytesV).length = n * 64 := by
    rw [flat_length bytesV 64 _ (fun b hb => by
      rw [length_bytesV]
      rcases List.mem_or_eq_of_mem_set hb with h1 | h1
      · exact h b h1
      · rw [h1, List.length_append, List.length_drop, hgd, hql, hu]), List.length_set, hn]
  have h3 := hb2.own (size := 64) hb hnc hcm (by
    rw [List.length_append] at hlen ⊢
    omega)
  rwa [List.take_left' hfl] at h3
theorem ReadsIn.tail {S : Nat → Prop} {w : World} {g o n c : Nat} {A : Option Addr} {x : UInt8} {r : List UInt8} (h : ReadsIn 1 S w (.slice (some ⟨g, o, none⟩) (n + 1) c) (bytesV (x :: r))) (hA : 0 < n → A = some ⟨g, o + 1, none⟩) : ReadsIn 1 S w (.slice A n (c - 1)) (bytesV r) := by
  obtain ⟨A', n', c', e, hl, hc, hm, ha⟩ := h
  injection e with e1 e2 e3
  subst e1 e2 e3
  refine ⟨A, n, c - 1, rfl, by rw [length_bytesV] at hl ⊢; simp at hl; omega, by omega, by omega, fun hn => ?_⟩
  obtain ⟨g', o', hA', hs, hg, hx⟩ := ha.out (by omega)
  injection hA' with hA'
  injection hA' with hg' ho'
  subst hg' ho'
  refine ⟨g, o + 1, hA hn, hs, hg, fun j u hu => ?_⟩
  have := hx (j + 1) u (by simpa [bytesV] using hu)
  rw [← this]
  congr 2
  omega
theorem wp_copy_sec {o : Oper} {a : Act} {w : World} {K : Act → World → Prop} {Q : Exit → Act → World → Prop} (d s : Operand) (ho : o.op = .call { callee := .builtin .copy, args := #[d, s], argTypes := #[31, 31] })
    (b ob dc : Nat) (g og sc : Nat) (u : List UInt8) (hd : a.eval d = .slice (some ⟨b, ob, none⟩) 32 dc) (hs : a.eval s = .slice (some ⟨g, og, none⟩) 32 sc) (hu : u.length = 32) (hr : w.rangeAt g og (bytesV u)) (ht : w.there b ob 32)
    (hk : K (a.put o.dst (goInt 32)) (w.setCells b ob (bytesV u))) : o.wp Try.prog a w K Q := by
  have hrun := run_copyN (P := Try.prog) w 31 31 o.type 5 b ob 32 dc 32 sc 1 32 ⟨g, og, none⟩ (bytesV u) Try.underlying31 (by kernel_rfl) rfl (by rw [length_bytesV, hu]) (fun j v hv => by rw [addr_add]; exact hr j v hv) (by rw [length_bytesV, hu]; exact ht) (bytesV_one u)
  unfold Oper.wp execOp
  simp only [ho, resolve, invoke, builtin, Sem.run_bind, Sem.run_pure, Result.andThen_ok, List.map_toArray, List.map_cons, List.map_nil, hd, hs, hrun]
  exact hk

section
variable {B p : Nat} {O S : Nat → Prop} {w w' w5 : World} {s s' : Dk} {nv sv lv lv' : Value}
theorem own_le {w : World} {base n : Nat} {e : TypeId} {sz : Nat} {v : Value} {xs : List Value} (h : w.ownsRow base e sz v n xs) : n ≤ maxLen := by
  rcases h.2 with ⟨_, rfl⟩ | ⟨g, cap, cur, _, _, _, h1, h2, _⟩
  · omega
  · omega
theorem Dk.Ok.withSure {s : Dk} (h : s.Ok) {X : List (List UInt8)} (h1 : X.length = s.now.length) (h2 : ∀ b ∈ X, b.length = 64) : Dk.Ok { s with sure := X } := ⟨h1, h.most, h.now, h2, h.log, h.ops0, h.logs⟩
set_option maxHeartbeats 3200000 in
set_option maxRecDepth 100000 in
theorem scrash_any (h : DiskIs B O w p s) (v0 : Value) (l : List UInt8) (hl : ReadsIn 1 S w v0 (bytesV l)) (hS : ∀ g, S g → ¬ O g) :
    Calls Try.prog 22 #[.pointer (some ⟨p, 0, none⟩), v0] w fun en w' => en = .returned (.tuple #[]) ∧ Did B O w p (s.crash l) w' := by
  obtain ⟨nv, sv, lv, hd, hO⟩ := h
  obtain ⟨An, cn, rfl⟩ := own_form hd.now
  obtain ⟨As, cs, rfl⟩ := own_form hd.sure
  obtain ⟨Al, cl, rfl⟩ := own_form hd.log
  rw [hd.ok.len] at hd hO
  obtain ⟨A0, c0, rfl, _, _⟩ := hl.reads.form
  rw [length_bytesV] at hl ⊢
  have k2 := hd.blk.cell 2
  simp only [List.getElem?_cons_zero, List.getElem?_cons_succ] at k2
  have HD := Lib.hid hd
  have HO := Lib.hid hO
  have HL := Lib.hid hl
  have HSO := Lib.hid hS
  obtain ⟨now, sure0, log, ops, fuse, down⟩ := s
  simp only at HD HO k2 hd
  obtain ⟨n, hn⟩ : ∃ n, now.length = n := ⟨_, rfl⟩
  obtain ⟨m, hm⟩ : ∃ m, log.length = m := ⟨_, rfl⟩
  rw [hn] at HD HO
  rw [hm] at HD HO k2
  have HN := Lib.hid hn
  have HM := Lib.hid hm
  have hm9 : m ≤ 9223372036854775807 := by
    have := own_le hd.log
    simp only at this
    unfold maxLen at this
    omega
  clear hd hO hl hS hn hm
  go_enter Try.func22, Try.ntmps22
  go_wp2
  go_loopw [14, 1] (fun i lx wr => ∃ (k : Nat) (rest : List UInt8) (X : List (List UInt8)), k ≤ m ∧ i = .int .i64 k ∧ Hid (crashI log l sure0 = crashI (log.drop k) rest X) ∧ Hid (ReadsIn 1 S wr lx (bytesV rest)) ∧ Hid (DAt B wr p (.slice An n cn) (.slice As n cs) (.slice Al m cl) ⟨now, X, log, ops, fuse, down⟩) ∧ Hid (Off (fun i => (Value.slice As n cs).ownBlock = some i) w wr)) (fun i _ _ => m - (intOf i).toNat)
  case atStart => exact ⟨0, l, sure0, by omega, rfl, Lib.hid rfl, HL, HD, Lib.hid (Off.refl _ _)⟩
  case round =>
    obtain ⟨k, rest, X, hk, rfl, hcr, hrd, hda, hof⟩ := hrel
    by_cases hlt : k < m
    · obtain ⟨e, he⟩ : ∃ e, log[k]? = some e := ⟨log[k]'(by rw [HM.out]; exact hlt), List.getElem?_eq_getElem _⟩
      have hle := hda.out.ok.log e (List.mem_of_getElem? he)
      obtain ⟨gl, cl', e', hBg, hrg, hth⟩ := own_range hda.out.log (fun x hx => wrV_len (hda.out.ok.log x hx).2) rfl he
      injection e' with e1 e2 e3
      subst e1 e3
      clear e2
      have hgl := (hda.out.log.lt gl rfl).2
      have HRG := Lib.hid hrg
      have hsz := hof.out.size
      have hlb : (bytesV e.2).length = 64 := by rw [length_bytesV, hle.2]
      have hlw : (wrV e).length = 65 := wrV_len hle.2
      have HS3 : Hid ((Try.prog.info? 76).map (·.size) = some (wrV e).toArray.size) := Lib.hid (by rw [List.size_toArray, hlw]; exact size_wr)
      have HS4 : Hid ((Try.prog.info? 76).map (·.size) = some (wrV e).length) := Lib.hid (by rw [hlw]; exact size_wr)
      have HS1 : Hid ((Try.prog.info? 74).map (·.size) = some (bytesV e.2).length) := Lib.hid (by rw [hlb]; exact size_sec)
      have HS2 : Hid ((Try.prog.info? 74).map (·.size) = some (bytesV e.2).toArray.size) := Lib.hid (by rw [List.size_toArray, hlb]; exact size_sec)
      have HO1 := Lib.hid (all_oneCell_toArray (bytesV_one e.2))
      have HO2 : Hid ((wrV e).toArray.all (·.oneCell') = true) := Lib.hid (all_oneCell_toArray (fun v hv => by
        rcases List.mem_cons.1 hv with rfl | hv
        · rfl
        · exact bytesV_one e.2 v hv))
      have kz := Blk.freshA wr 76 zWr.toArray
      have HT : Hid ((wr.alloc (.cells zWr.toArray 76)).there wr.heap.size 0 (wrV e).toArray.size) := Lib.hid (kz.there 0 _ (by simp [hlw, len_zWr]))
      have hoff2 : Off (fun i => wr.heap.size ≤ i) wr ((wr.alloc (.cells zWr.toArray 76)).setCells wr.heap.size 0 (wrV e).toArray.toList) :=
        ((Off.refl (fun i => wr.heap.size ≤ i) wr).alloc _).setCells _ 0 (.inr (Nat.le_refl _))
      have hbq : Blk ((wr.alloc (.cells zWr.toArray 76)).setCells wr.heap.size 0 (wrV e).toArray.toList) wr.heap.size 76 (wrV e) := by
        have h2 := Blk.setCells (wrV e) 0 kz (by simp [hlw, len_zWr])
        rw [List.take_zero, List.nil_append, List.drop_of_length_le (by simp [hlw, len_zWr]), List.append_nil] at h2
        exact h2
      have HQ := Lib.hid hbq
      have HD2 := Lib.hid (hda.out.off hoff2 (fun j hj => by have := (hda.out.lt j hj).2; omega))
      have HRD2 := Lib.hid (hrd.out.off hoff2 (fun g _ hg => by omega))
      have HOF2 : Hid (Off (fun i => (Value.slice As n cs).ownBlock = some i) w ((wr.alloc (.cells zWr.toArray 76)).setCells wr.heap.size 0 (wrV e).toArray.toList)) := Lib.hid (hof.out.trans hoff2 (fun i hi => .inr (by omega)))
      have hplt := hda.out.blk.lt
      have hgs : ∀ i, (Value.slice As n cs).ownBlock = some i → i < wr.heap.size := fun i hi => (hda.out.sure.lt i hi).2
      have HGS := Lib.hid hgs
      have hsz2 := hoff2.size
      have hqlt := hbq.lt
      have HCR : Hid (crashI log l sure0 = crashI (e :: log.drop (k + 1)) rest X) := Lib.hid (by
        rw [hcr.out, List.drop_eq_getElem_cons (by rw [HM.out]; exact hlt)]
        congr 2
        exact (List.getElem?_eq_some_iff.1 he).2)
      have i0 : (0 : Int) ≤ (k : Int) := by omega
      have i1 : (k : Int) < (m : Int) := by omega
      have HLE := Lib.hid hle
      clear hcr hrd hda hof hrg hth hlb hlw kz hoff2 hbq hle he hgs
      go_upto_region 4 with (first
        | (refine wpList_load_mid rfl 76 (.tmp 16) rfl gl (k * 65) rfl (wrV e) _ HRG.out Try.underlying76 rfl HS4.out ?_)
        | (refine wpList_alloc_of rfl 76 rfl zWr.toArray 65 info_wr ?_)
        | (refine wpList_store_mid rfl 76 (.tmp 5) (.tmp 17) rfl wr.heap.size 0 (wrV e).toArray rfl rfl HT.out HS3.out HO2.out ?_))
      simp only [Act.put, List.setIfInBounds_toArray, List.set_cons_zero, List.set_cons_succ]
      generalize ((wr.alloc (.cells zWr.toArray 76)).setCells wr.heap.size 0 (wrV e).toArray.toList) = w2 at HD2 HQ HOF2 HRD2 hsz2 hqlt ⊢
      obtain ⟨ea, eb⟩ := e
      have q0 : w2.cell? ⟨wr.heap.size, 0, none⟩ = some (.int .i64 (ea : Int)) := HQ.out.cell 0
      have HRQ : Hid (w2.rangeAt wr.heap.size 1 (bytesV eb)) := Lib.hid (HQ.out.range 1 (bytesV eb) (by simp [wrV]))
      have d1 : w2.cell? ⟨p, 1, none⟩ = some (.slice As n cs) := HD2.out.blk.cell 1
      cases rest with
      | nil =>
        have HCR2 : Hid (crashI log l sure0 = crashI (log.drop (k + 1)) [] X) := Lib.hid (by rw [HCR.out, crashI, pickI, if_neg (by omega), if_neg (by omega)])
        obtain ⟨A3, n3, c3, rfl, h3, _⟩ := HRD2.out
        have h3 : n3 = 0 := by simpa [bytesV] using h3.symm
        subst h3
        go_wp2
        go_roundw
        case rel => exact ⟨k + 1, [], X, by omega, by go_num, HCR2, HRD2, HD2, HOF2⟩
        case measure => simp [intOf]; omega
      | cons x r =>
        obtain ⟨A3, n3, c3, rfl, h3, h3c, _, h3a⟩ := HRD2.out
        obtain ⟨n4, rfl⟩ : ∃ n4, n3 = n4 + 1 := ⟨n3 - 1, by rw [length_bytesV] at h3; simp at h3; omega⟩
        obtain ⟨g3, o3, rfl, hS3, hg3, hx3⟩ := h3a.out (by omega)
        have x0 : w2.cell? ⟨g3, o3, none⟩ = some (.int .u8 (x.toNat : Int)) := hx3 0 _ rfl
        clear h3a hx3
        go_upto_region 6 with fail
        go_quiet (fail)
        have hA : 0 < n4 → (if c3 = 1 then some (⟨g3, o3, none⟩ : Addr) else some ⟨g3, o3 + 1, none⟩) = some ⟨g3, o3 + 1, none⟩ := fun h => if_neg (by omega)
        have hrt := (HRD2.out.tail hA).drewN nq
        have HRT := Lib.hid hrt
        generalize (if c3 = 1 then some (⟨g3, o3, none⟩ : Addr) else some ⟨g3, o3 + 1, none⟩) = A4 at HRT ⊢
        have HD3 := Lib.hid (HD2.out.off ((Off.refl (fun _ => False) w2).drewN nq) (fun _ _ h => h))
        have HOF3 := Lib.hid (HOF2.out.drewN nq)
        have HQ3 := Lib.hid (HQ.out.drewN nq)
        have hsz3 : w2.heap.size = (w2.drewN nq).heap.size := rfl
        clear hA hrt HD2 HOF2 HQ HRD2 x0 q0 HRQ d1
        generalize w2.drewN nq = w3 at HRT HD3 HOF3 HQ3 hsz3 ⊢
        have q0 : w3.cell? ⟨wr.heap.size, 0, none⟩ = some (.int .i64 (ea : Int)) := HQ3.out.cell 0
        have HRQ : Hid (w3.rangeAt wr.heap.size 1 (bytesV eb)) := Lib.hid (HQ3.out.range 1 (bytesV eb) (by simp [wrV]))
        have d1 : w3.cell? ⟨p, 1, none⟩ = some (.slice As n cs) := HD3.out.blk.cell 1
        have hXl : X.length = n := by have := HD3.out.ok.len; simp only at this; rw [this]; exact HN.out
        have hea : ea < n := by have := HLE.out.1; simp only at this; rw [← HN.out]; exact this
        have heb : eb.length = 64 := HLE.out.2
        have hsu := HD3.out.sure
        simp only at hsu
        rw [hXl] at hsu
        obtain ⟨y, hy⟩ : ∃ y, X[ea]? = some y := ⟨X[ea]'(by omega), List.getElem?_eq_getElem _⟩
        obtain ⟨gs, cs', e', _, _, hths⟩ := own_range hsu (secs_len HD3.out.ok.sure) hXl hy
        injection e' with e1 _ e3
        subst e1 e3
        have hgsl := HGS.out gs rfl
        have HXL := Lib.hid hXl
        have HEB := Lib.hid heb
        have HSU := Lib.hid hsu
        have HTH : Hid (w3.there gs (ea * 64) 64) := Lib.hid hths
        have j0 : (0 : Int) ≤ (ea : Int) := by omega
        have j1 : (ea : Int) < (n : Int) := by omega
        clear hy hths hXl heb hsu
        have htm : (x.toNat : Int) % 4 = ((x.toNat % 4 : Nat) : Int) := by omega
        by_cases h2 : x.toNat % 4 = 2
        · have t2 : ((x.toNat : Int) % 4 == 2) = true := by rw [htm, h2]; rfl
          have HCR2 : Hid (crashI log l sure0 = crashI (log.drop (k + 1)) r (X.set ea eb)) := Lib.hid (by rw [HCR.out, crashI, pickI, if_pos h2])
          have HTH2 : Hid (w3.drew.there gs (ea * 64) (bytesV eb).toArray.size) := Lib.hid (by rw [List.size_toArray, length_bytesV, HEB.out]; exact HTH.out)
          have hown4 := own_setAt (w := w3.drew) HSU.out (secs_len HD3.out.ok.sure) HXL.out hea eb (by rw [length_bytesV, HEB.out])
          have hof4 : Off (fun i => (Value.slice (some ⟨gs, 0, none⟩) n cs).ownBlock = some i) w3 (w3.drew.setCells gs (ea * 64) (bytesV eb).toArray.toList) := ((Off.refl _ w3).drew).setCells _ (ea * 64) (.inl rfl)
          have hXs : (X.set ea eb).length = n := by rw [List.length_set]; exact HXL.out
          have HD4 := Lib.hid (HD3.out.sured (s' := ⟨now, X.set ea eb, log, ops, fuse, down⟩) hof4 (by simp only; rw [hXs]; exact hown4) (HD3.out.ok.withSure (X := X.set ea eb) (by simp only; rw [hXs, HN.out]) (fun b hb => by
            rcases List.mem_or_eq_of_mem_set hb with h1 | h1
            · exact HD3.out.ok.sure b h1
            · rw [h1]; exact HEB.out)) rfl rfl rfl rfl rfl)
          have HOF4 := Lib.hid hof4
          clear h2 htm hown4 hof4 hXs
          go_upto_region 9 with fail
          refine wp_region_held_drew (S := (fun w' => (w'.cell? ⟨p, 1, none⟩ = some (.slice (some ⟨gs, 0, none⟩) n cs) ∧ w'.cell? ⟨wr.heap.size, 0, none⟩ = some (.int .i64 (ea : Int))) ∧ w'.rangeAt wr.heap.size 1 (bytesV eb))) (by kernel_rfl) (⟨⟨d1, q0⟩, HRQ.out⟩) (fun hHeld => ?_)
          refine' wpAnyH_take (i := 0) (v := _) rfl (by kernel_rfl) (by kernel_rfl) (by kernel_rfl) (fun _ _ _ h => h) (Or.inl ⟨by rfl, ?taq9⟩) (by assumption) ?tbq9
          case taq9 =>
            intro wS hSw
            (try dsimp only at hSw)
            go_simp
            (try (with_reducible rfl))
          (try simp only [List.getElem_toArray, List.getElem_cons_zero, List.getElem_cons_succ, Act.put, List.setIfInBounds_toArray, List.set_cons_zero, List.set_cons_succ])
          refine' wpAnyH_take (i := 1) (v := _) rfl (by kernel_rfl) (by kernel_rfl) (by kernel_rfl) (fun _ _ _ h => h) (Or.inl ⟨by rfl, ?taq10⟩) (by assumption) ?tbq10
          case taq10 =>
            intro wS hSw
            (try dsimp only at hSw)
            go_simp
            (try (with_reducible rfl))
          (try simp only [List.getElem_toArray, List.getElem_cons_zero, List.getElem_cons_succ, Act.put, List.setIfInBounds_toArray, List.set_cons_zero, List.set_cons_succ])
          refine' wpAnyH_take (i := 2) (v := _) rfl (by kernel_rfl) (by kernel_rfl) (by kernel_rfl) (fun _ _ _ h => h) (Or.inl ⟨by rfl, ?taq11⟩) (by assumption) ?tbq11
          case taq11 =>
            intro wS hSw
            (try dsimp only at hSw)
            go_simp
            (try (with_reducible rfl))
          (try simp only [List.getElem_toArray, List.getElem_cons_zero, List.getElem_cons_succ, Act.put, List.setIfInBounds_toArray, List.set_cons_zero, List.set_cons_succ])
          refine' wpAnyH_take (i := 3) (v := _) rfl (by kernel_rfl) (by kernel_rfl) (by kernel_rfl) (fun _ _ _ h => h) (Or.inl ⟨by rfl, ?taq12⟩) (by assumption) ?tbq12
          case taq12 =>
            intro wS hSw
            (try dsimp only at hSw)
            go_simp
            (try (with_reducible rfl))
          (try simp only [List.getElem_toArray, List.getElem_cons_zero, List.getElem_cons_succ, Act.put, List.setIfInBounds_toArray, List.set_cons_zero, List.set_cons_succ])
          refine' wpAnyH_take (i := 4) (v := _) rfl (by kernel_rfl) (by kernel_rfl) (by kernel_rfl) (fun _ _ _ h => h) (Or.inl ⟨by rfl, ?taq13⟩) (by assumption) ?tbq13
          case taq13 =>
            intro wS hSw
            (try dsimp only at hSw)
            go_simp
            (try (with_reducible rfl))
          (try simp only [List.getElem_toArray, List.getElem_cons_zero, List.getElem_cons_succ, Act.put, List.setIfInBounds_toArray, List.set_cons_zero, List.set_cons_succ])
          refine' wpAnyH_take (i := 5) (v := _) rfl (by kernel_rfl) (by kernel_rfl) (by kernel_rfl) (fun _ _ _ h => h) (Or.inl ⟨by rfl, ?taq14⟩) (by assumption) ?tbq14
          case taq14 =>
            intro wS hSw
            (try dsimp only at hSw)
            go_simp
            (try (with_reducible rfl))
          (try simp only [List.getElem_toArray, List.getElem_cons_zero, List.getElem_cons_succ, Act.put, List.setIfInBounds_toArray, List.set_cons_zero, List.set_cons_succ])
          refine' wpAnyH_take (i := 6) (v := _) rfl (by kernel_rfl) (by kernel_rfl) (by kernel_rfl) (fun _ _ _ h => h) (Or.inl ⟨by rfl, ?taq15⟩) (by assumption) ?tbq15
          case taq15 =>
            intro wS hSw
            (try dsimp only at hSw)
            go_simp
            (try (with_reducible rfl))
          (try simp only [List.getElem_toArray, List.getElem_cons_zero, List.getElem_cons_succ, Act.put, List.setIfInBounds_toArray, List.set_cons_zero, List.set_cons_succ])
          refine' wpAnyH_take (i := 7) (v := _) rfl (by kernel_rfl) (by kernel_rfl) (by kernel_rfl) (fun _ _ _ h => h) (yieldsIf_load_mid (by rfl) 74 (.tmp 36) (by rfl) wr.heap.size 1 (by rfl) (bytesV eb) _ (fun _ h => h.2) und_sec rfl HS1.out) (by assumption) ?tbq16
          (try simp only [List.getElem_toArray, List.getElem_cons_zero, List.getElem_cons_succ, Act.put, List.setIfInBounds_toArray, List.set_cons_zero, List.set_cons_succ])
          refine' wpAnyH_take (i := 8) (v := _) rfl (by kernel_rfl) (by kernel_rfl) (by kernel_rfl) (fun _ _ _ h => h) (Or.inl ⟨by rfl, ?taq17⟩) (by assumption) ?tbq17
          case taq17 =>
            intro wS hSw
            (try dsimp only at hSw)
            go_simp
            (try (with_reducible rfl))
          (try simp only [List.getElem_toArray, List.getElem_cons_zero, List.getElem_cons_succ, Act.put, List.setIfInBounds_toArray, List.set_cons_zero, List.set_cons_succ])
          refine wpAnyH_ready (rs := [9]) (by kernel_rfl) (by simp) ?_
          refine AllReadyH.cons rfl (fun K9 hK9 => ?_) AllReadyH.nil
          have s0 : (w3.drew.setCells gs (ea * 64) (bytesV eb).toArray.toList).cell? ⟨p, 1, none⟩ = some (.slice (some ⟨gs, 0, none⟩) n cs) := HD4.out.blk.cell 1
          have s1 := (HOF4.out.cell (p := ⟨wr.heap.size, 0, none⟩) (by show wr.heap.size < _; omega) (fun e => by have h9 : wr.heap.size < wr.heap.size := HGS.out _ e; omega)).trans q0
          have s2 : (w3.drew.setCells gs (ea * 64) (bytesV eb).toArray.toList).rangeAt wr.heap.size 1 (bytesV eb) := fun j v hv => (HOF4.out.cell (p := ⟨wr.heap.size, 1 + j, none⟩) (by show wr.heap.size < _; omega) (fun e => by have h9 : wr.heap.size < wr.heap.size := HGS.out _ e; omega)).trans (HRQ.out j v hv)
          (try simp only [List.getElem_toArray, List.getElem_cons_zero, List.getElem_cons_succ])
          rw [if_pos (by rfl)]
          refine wp_store_mid 74 (.tmp 38) (.tmp 37) (by rfl) gs (ea * 64) (bytesV eb).toArray (by rfl) (by rfl) HTH2.out HS2.out HO1.out ?_
          refine hK9.out _ _ (⟨⟨s0, s1⟩, s2⟩) (fun hHeld9 => ?_)
          clear hK9 K9
          (try simp only [List.getElem_toArray, List.getElem_cons_zero, List.getElem_cons_succ, Act.put, List.setIfInBounds_toArray, List.set_cons_zero, List.set_cons_succ])
          clear s0 s1 s2
          refine wpAnyH_done (by kernel_rfl) ?_ _
          go_wp2
          go_roundw
          case rel => exact ⟨k + 1, r, X.set ea eb, by omega, by go_num, HCR2, Lib.hid (HRT.out.off HOF4.out (fun g hg hl e => HSO.out g hg (HO.out g (.inr (.inr (.inl e)))))), HD4, Lib.hid (HOF3.out.trans HOF4.out (fun i hi => .inl hi))⟩
          case measure => simp [intOf]; omega
        · have t2 : ((x.toNat : Int) % 4 == 2) = false := by rw [htm]; exact beq_eq_false_iff_ne.2 (by omega)
          by_cases h3' : x.toNat % 4 = 3
          · have t3 : ((x.toNat : Int) % 4 == 3) = true := by rw [htm, h3']; rfl
            have HCR2 : Hid (crashI log l sure0 = crashI (log.drop (k + 1)) r (X.set ea (eb.take 32 ++ (X.getD ea []).drop 32))) := Lib.hid (by rw [HCR.out, crashI, pickI, if_neg h2, if_pos h3'])
            have h32 : (eb.take 32).length = 32 := by rw [List.length_take, HEB.out]; rfl
            have HTH2 : Hid (w3.drew.there gs (ea * 64) 32) := Lib.hid (fun j hj => HTH.out j (by omega))
            have HR32 : Hid (w3.drew.rangeAt wr.heap.size 1 (bytesV (eb.take 32))) := Lib.hid (fun j v hv => HRQ.out j v (by
              rw [← bytesV_take, List.getElem?_take] at hv
              split at hv
              · exact hv
              · cases hv))
            have hgX : (X.getD ea []).length = 64 := by
              rw [List.getD_eq_getElem?_getD, List.getElem?_eq_getElem (by rw [HXL.out]; exact hea)]
              exact HD3.out.ok.sure _ (List.getElem_mem _)
            have hown4 := own_setPart (w := w3.drew) HSU.out HD3.out.ok.sure HXL.out hea (eb.take 32) h32
            have hof4 : Off (fun i => (Value.slice (some ⟨gs, 0, none⟩) n cs).ownBlock = some i) w3 (w3.drew.setCells gs (ea * 64) (bytesV (eb.take 32))) := ((Off.refl _ w3).drew).setCells _ (ea * 64) (.inl rfl)
            have hXs : (X.set ea (eb.take 32 ++ (X.getD ea []).drop 32)).length = n := by rw [List.length_set]; exact HXL.out
            have HD4 := Lib.hid (HD3.out.sured (s' := ⟨now, X.set ea (eb.take 32 ++ (X.getD ea []).drop 32), log, ops, fuse, down⟩) hof4 (by simp only; rw [hXs]; exact hown4) (HD3.out.ok.withSure (X := X.set ea (eb.take 32 ++ (X.getD ea []).drop 32)) (by simp only; rw [hXs, HN.out]) (fun b hb => by
              rcases List.mem_or_eq_of_mem_set hb with h1 | h1
              · exact HD3.out.ok.sure b h1
              · rw [h1, List.length_append, List.length_drop, h32, hgX])) rfl rfl rfl rfl rfl)
            have HOF4 := Lib.hid hof4
            have H32 := Lib.hid h32
            clear h2 h3' htm hown4 hof4 hXs hgX h32
            go_upto_region 11 with fail
            refine wp_region_held_drew (S := (fun w' => (w'.cell? ⟨p, 1, none⟩ = some (.slice (some ⟨gs, 0, none⟩) n cs) ∧ w'.cell? ⟨wr.heap.size, 0, none⟩ = some (.int .i64 (ea : Int))))) (by kernel_rfl) (⟨d1, q0⟩) (fun hHeld => ?_)
            refine' wpAnyH_take (i := 0) (v := _) rfl (by kernel_rfl) (by kernel_rfl) (by kernel_rfl) (fun _ _ _ h => h) (Or.inl ⟨by rfl, ?taq18⟩) (by assumption) ?tbq18
            case taq18 =>
              intro wS hSw
              (try dsimp only at hSw)
              go_simp
              (try (with_reducible rfl))
            (try simp only [List.getElem_toArray, List.getElem_cons_zero, List.getElem_cons_succ, Act.put, List.setIfInBounds_toArray, List.set_cons_zero, List.set_cons_succ])
            refine' wpAnyH_take (i := 1) (v := _) rfl (by kernel_rfl) (by kernel_rfl) (by kernel_rfl) (fun _ _ _ h => h) (Or.inl ⟨by rfl, ?taq19⟩) (by assumption) ?tbq19
            case taq19 =>
              intro wS hSw
              (try dsimp only at hSw)
              go_simp
              (try (with_reducible rfl))
            (try simp only [List.getElem_toArray, List.getElem_cons_zero, List.getElem_cons_succ, Act.put, List.setIfInBounds_toArray, List.set_cons_zero, List.set_cons_succ])
            refine' wpAnyH_take (i := 2) (v := _) rfl (by kernel_rfl) (by kernel_rfl) (by kernel_rfl) (fun _ _ _ h => h) (Or.inl ⟨by rfl, ?taq20⟩) (by assumption) ?tbq20
            case taq20 =>
              intro wS hSw
              (try dsimp only at hSw)
              go_simp
              (try (with_reducible rfl))
            (try simp only [List.getElem_toArray, List.getElem_cons_zero, List.getElem_cons_succ, Act.put, List.setIfInBounds_toArray, List.set_cons_zero, List.set_cons_succ])
            refine' wpAnyH_take (i := 3) (v := _) rfl (by kernel_rfl) (by kernel_rfl) (by kernel_rfl) (fun _ _ _ h => h) (Or.inl ⟨by rfl, ?taq21⟩) (by assumption) ?tbq21
            case taq21 =>
              intro wS hSw
              (try dsimp only at hSw)
              go_simp
              (try (with_reducible rfl))
            (try simp only [List.getElem_toArray, List.getElem_cons_zero, List.getElem_cons_succ, Act.put, List.setIfInBounds_toArray, List.set_cons_zero, List.set_cons_succ])
            refine' wpAnyH_take (i := 4) (v := _) rfl (by kernel_rfl) (by kernel_rfl) (by kernel_rfl) (fun _ _ _ h => h) (Or.inl ⟨by rfl, ?taq22⟩) (by assumption) ?tbq22
            case taq22 =>
              intro wS hSw
              (try dsimp only at hSw)
              go_simp
              (try (with_reducible rfl))
            (try simp only [List.getElem_toArray, List.getElem_cons_zero, List.getElem_cons_succ, Act.put, List.setIfInBounds_toArray, List.set_cons_zero, List.set_cons_succ])
            refine' wpAnyH_take (i := 5) (v := _) rfl (by kernel_rfl) (by kernel_rfl) (by kernel_rfl) (fun _ _ _ h => h) (Or.inl ⟨by rfl, ?taq23⟩) (by assumption) ?tbq23
            case taq23 =>
              intro wS hSw
              (try dsimp only at hSw)
              go_simp
              (try (with_reducible rfl))
            (try simp only [List.getElem_toArray, List.getElem_cons_zero, List.getElem_cons_succ, Act.put, List.setIfInBounds_toArray, List.set_cons_zero, List.set_cons_succ])
            refine' wpAnyH_take (i := 6) (v := _) rfl (by kernel_rfl) (by kernel_rfl) (by kernel_rfl) (fun _ _ _ h => h) (Or.inl ⟨by rfl, ?taq24⟩) (by assumption) ?tbq24
            case taq24 =>
              intro wS hSw
              (try dsimp only at hSw)
              go_simp
              (try (with_reducible rfl))
            (try simp only [List.getElem_toArray, List.getElem_cons_zero, List.getElem_cons_succ, Act.put, List.setIfInBounds_toArray, List.set_cons_zero, List.set_cons_succ])
            refine' wpAnyH_take (i := 7) (v := _) rfl (by kernel_rfl) (by kernel_rfl) (by kernel_rfl) (fun _ _ _ h => h) (Or.inl ⟨by rfl, ?taq25⟩) (by assumption) ?tbq25
            case taq25 =>
              intro wS hSw
              (try dsimp only at hSw)
              go_simp
              (try (with_reducible rfl))
            (try simp only [List.getElem_toArray, List.getElem_cons_zero, List.getElem_cons_succ, Act.put, List.setIfInBounds_toArray, List.set_cons_zero, List.set_cons_succ])
            refine' wpAnyH_take (i := 8) (v := _) rfl (by kernel_rfl) (by kernel_rfl) (by kernel_rfl) (fun _ _ _ h => h) (Or.inl ⟨by rfl, ?taq26⟩) (by assumption) ?tbq26
            case taq26 =>
              intro wS hSw
              (try dsimp only at hSw)
              go_simp
              (try (with_reducible rfl))
            (try simp only [List.getElem_toArray, List.getElem_cons_zero, List.getElem_cons_succ, Act.put, List.setIfInBounds_toArray, List.set_cons_zero, List.set_cons_succ])
            refine' wpAnyH_take (i := 9) (v := _) rfl (by kernel_rfl) (by kernel_rfl) (by kernel_rfl) (fun _ _ _ h => h) (Or.inl ⟨by rfl, ?taq27⟩) (by assumption) ?tbq27
            case taq27 =>
              intro wS hSw
              (try dsimp only at hSw)
              go_simp
              (try (with_reducible rfl))
            (try simp only [List.getElem_toArray, List.getElem_cons_zero, List.getElem_cons_succ, Act.put, List.setIfInBounds_toArray, List.set_cons_zero, List.set_cons_succ])
            refine wpAnyH_ready (rs := [10]) (by kernel_rfl) (by simp) ?_
            refine AllReadyH.cons rfl (fun K9 hK9 => ?_) AllReadyH.nil
            have s0 : (w3.drew.setCells gs (ea * 64) (bytesV (eb.take 32))).cell? ⟨p, 1, none⟩ = some (.slice (some ⟨gs, 0, none⟩) n cs) := HD4.out.blk.cell 1
            have s1 := (HOF4.out.cell (p := ⟨wr.heap.size, 0, none⟩) (by show wr.heap.size < _; omega) (fun e => by have h9 : wr.heap.size < wr.heap.size := HGS.out _ e; omega)).trans q0
            (try simp only [List.getElem_toArray, List.getElem_cons_zero, List.getElem_cons_succ])
            rw [if_pos (by rfl)]
            refine wp_copy_sec (.tmp 48) (.tmp 50) (by rfl) gs (ea * 64) 64 wr.heap.size 1 64 (eb.take 32) (by rfl) (by rfl) H32.out HR32.out HTH2.out ?_
            refine hK9.out _ _ (⟨s0, s1⟩) (fun hHeld9 => ?_)
            clear hK9 K9
            (try simp only [List.getElem_toArray, List.getElem_cons_zero, List.getElem_cons_succ, Act.put, List.setIfInBounds_toArray, List.set_cons_zero, List.set_cons_succ])
            clear s0 s1
            refine wpAnyH_done (by kernel_rfl) ?_ _
            go_wp2
            go_roundw
            case rel => exact ⟨k + 1, r, _, by omega, by go_num, HCR2, Lib.hid (HRT.out.off HOF4.out (fun g hg hl e => HSO.out g hg (HO.out g (.inr (.inr (.inl e)))))), HD4, Lib.hid (HOF3.out.trans HOF4.out (fun i hi => .inl hi))⟩
            case measure => simp [intOf]; omega
          · have t3 : ((x.toNat : Int) % 4 == 3) = false := by rw [htm]; exact beq_eq_false_iff_ne.2 (by omega)
            have HCR2 : Hid (crashI log l sure0 = crashI (log.drop (k + 1)) r X) := Lib.hid (by rw [HCR.out, crashI, pickI, if_neg h2, if_neg h3'])
            clear h2 h3' htm
            go_wp2
            go_roundw
            case rel => exact ⟨k + 1, r, X, by omega, by go_num, HCR2, HRT, HD3, HOF3⟩
            case measure => simp [intOf]; omega
    · have hkm : k = m := by omega
      subst hkm
      have HX : Hid (crashI log l sure0 = X) := Lib.hid (by
        rw [hcr.out, List.drop_of_length_le (by rw [HM.out]; omega)]
        cases rest <;> rfl)
      have hplt := hda.out.blk.lt
      have d0 : wr.cell? ⟨p, 0, none⟩ = some (.slice An n cn) := hda.out.blk.cell 0
      have d1 : wr.cell? ⟨p, 1, none⟩ = some (.slice As n cs) := hda.out.blk.cell 1
      clear hcr hrd
      go_upto_region 13 with fail
      refine wp_region_held_drew (S := (fun w' => w'.cell? ⟨p, 0, none⟩ = some (.slice An n cn) ∧ w'.cell? ⟨p, 1, none⟩ = some (.slice As n cs))) (by kernel_rfl) (⟨d0, d1⟩) (fun hHeld => ?_)
      refine' wpAnyH_take (i := 0) (v := _) rfl (by kernel_rfl) (by kernel_rfl) (by kernel_rfl) (fun _ _ _ h => h) (Or.inl ⟨by rfl, ?taq28⟩) (by assumption) ?tbq28
      case taq28 =>
        intro wS hSw
        (try dsimp only at hSw)
        go_simp
        (try (with_reducible rfl))
      (try simp only [List.getElem_toArray, List.getElem_cons_zero, List.getElem_cons_succ, Act.put, List.setIfInBounds_toArray, List.set_cons_zero, List.set_cons_succ])
      refine' wpAnyH_take (i := 1) (v := _) rfl (by kernel_rfl) (by kernel_rfl) (by kernel_rfl) (fun _ _ _ h => h) (Or.inl ⟨by rfl, ?taq29⟩) (by assumption) ?tbq29
      case taq29 =>
        intro wS hSw
        (try dsimp only at hSw)
        go_simp
        (try (with_reducible rfl))
      (try simp only [List.getElem_toArray, List.getElem_cons_zero, List.getElem_cons_succ, Act.put, List.setIfInBounds_toArray, List.set_cons_zero, List.set_cons_succ])
      refine' wpAnyH_take (i := 2) (v := _) rfl (by kernel_rfl) (by kernel_rfl) (by kernel_rfl) (fun _ _ _ h => h) (Or.inl ⟨by rfl, ?taq30⟩) (by assumption) ?tbq30
      case taq30 =>
        intro wS hSw
        (try dsimp only at hSw)
        go_simp
        (try (with_reducible rfl))
      (try simp only [List.getElem_toArray, List.getElem_cons_zero, List.getElem_cons_succ, Act.put, List.setIfInBounds_toArray, List.set_cons_zero, List.set_cons_succ])
      refine' wpAnyH_take (i := 3) (v := _) rfl (by kernel_rfl) (by kernel_rfl) (by kernel_rfl) (fun _ _ _ h => h) (Or.inl ⟨by rfl, ?taq31⟩) (by assumption) ?tbq31
      case taq31 =>
        intro wS hSw
        (try dsimp only at hSw)
        go_simp
        (try (with_reducible rfl))
      (try simp only [List.getElem_toArray, List.getElem_cons_zero, List.getElem_cons_succ, Act.put, List.setIfInBounds_toArray, List.set_cons_zero, List.set_cons_succ])
      refine' wpAnyH_take (i := 4) (v := _) rfl (by kernel_rfl) (by kernel_rfl) (by kernel_rfl) (fun _ _ _ h => h) (Or.inl ⟨by rfl, ?taq32⟩) (by assumption) ?tbq32
      case taq32 =>
        intro wS hSw
        (try dsimp only at hSw)
        go_simp
        (try (with_reducible rfl))
      (try simp only [List.getElem_toArray, List.getElem_cons_zero, List.getElem_cons_succ, Act.put, List.setIfInBounds_toArray, List.set_cons_zero, List.set_cons_succ])
      refine' wpAnyH_take (i := 5) (v := _) rfl (by kernel_rfl) (by kernel_rfl) (by kernel_rfl) (fun _ _ _ h => h) (Or.inl ⟨by rfl, ?taq33⟩) (by assumption) ?tbq33
      case taq33 =>
        intro wS hSw
        (try dsimp only at hSw)
        go_simp
        (try (with_reducible rfl))
      (try simp only [List.getElem_toArray, List.getElem_cons_zero, List.getElem_cons_succ, Act.put, List.setIfInBounds_toArray, List.set_cons_zero, List.set_cons_succ])
      refine' wpAnyH_take (i := 6) (v := _) rfl (by kernel_rfl) (by kernel_rfl) (by kernel_rfl) (fun _ _ _ h => h) (Or.inl ⟨by rfl, ?taq34⟩) (by assumption) ?tbq34
      case taq34 =>
        intro wS hSw
        (try dsimp only at hSw)
        go_simp
        (try (with_reducible rfl))
      (try simp only [List.getElem_toArray, List.getElem_cons_zero, List.getElem_cons_succ, Act.put, List.setIfInBounds_toArray, List.set_cons_zero, List.set_cons_succ])
      refine' wpAnyH_take (i := 7) (v := _) rfl (by kernel_rfl) (by kernel_rfl) (by kernel_rfl) (fun _ _ _ h => h) (Or.inl ⟨by rfl, ?taq35⟩) (by assumption) ?tbq35
      case taq35 =>
        intro wS hSw
        (try dsimp only at hSw)
        go_simp
        (try (with_reducible rfl))
      (try simp only [List.getElem_toArray, List.getElem_cons_zero, List.getElem_cons_succ, Act.put, List.setIfInBounds_toArray, List.set_cons_zero, List.set_cons_succ])
      refine wpAnyH_ready (rs := [8]) (by kernel_rfl) (by simp) ?_
      refine AllReadyH.cons rfl (fun K9 hK9 => ?_) AllReadyH.nil
      have hXl : X.length = n := by have := hda.out.ok.len; simp only at this; rw [this]; exact HN.out
      have hsu := hda.out.sure
      have hno := hda.out.now
      simp only at hsu hno
      rw [hXl] at hsu
      rw [HN.out] at hno
      (try simp only [List.getElem_toArray, List.getElem_cons_zero, List.getElem_cons_succ])
      rw [if_pos (by rfl)]
      refine wp_copy_rows (w := wr.drew) elem_sec (.tmp 56) (.tmp 60) (by rfl) (B := B) (B' := B) (n := n) (.slice An n cn) (.slice As n cs) (by rfl) (by rfl) hno hsu (rows_one _) ?_
      intro w5 hown5 hof5
      have hof : Off (fun i => (Value.slice An n cn).ownBlock = some i) wr w5 := ((Off.refl (fun _ => False) wr).drew.mono (fun _ h => h.elim)).trans hof5 (fun i hi => .inl hi)
      have HOF5 := Lib.hid hof
      have HD5 := Lib.hid (hda.out.nowed (s' := ⟨X, X, log, ops, fuse, down⟩) hof (by simp only; rw [hXl]; exact hown5) ⟨rfl, by simp only; rw [hXl]; have := hda.out.ok.most; simp only at this; rw [HN.out] at this; exact this, hda.out.ok.sure, hda.out.ok.sure, fun e he => by simp only; rw [hXl]; have := hda.out.ok.log e he; simp only at this; rw [← HN.out]; exact this, hda.out.ok.ops0, hda.out.ok.logs⟩ rfl rfl rfl rfl rfl)
      have y0 : w5.cell? ⟨p, 0, none⟩ = some (.slice An n cn) := HD5.out.blk.cell 0
      have y1 : w5.cell? ⟨p, 1, none⟩ = some (.slice As n cs) := HD5.out.blk.cell 1
      have y2 : w5.cell? ⟨p, 2, none⟩ = some (.slice Al k cl) := HD5.out.blk.cell 2
      have y4 : w5.cell? ⟨p, 4, none⟩ = some (.int .i64 fuse) := HD5.out.blk.cell 4
      have y5 : w5.cell? ⟨p, 5, none⟩ = some (.bool down) := HD5.out.blk.cell 5
      have z2 := HD5.out.blk.free 2
      have z4 := HD5.out.blk.free 4
      have z5 := HD5.out.blk.free 5
      clear hsu hno hown5 hof5 hof d0 d1
      refine hK9.out _ _ (⟨y0, y1⟩) (fun hHeld9 => ?_)
      clear hK9 K9
      (try simp only [List.getElem_toArray, List.getElem_cons_zero, List.getElem_cons_succ, Act.put, List.setIfInBounds_toArray, List.set_cons_zero, List.set_cons_succ])
      refine wpAnyH_done (by kernel_rfl) ?_ _
      go_wp2
      go_end0
      have HC := HD5.out.cleared
      have hk : (Dk.crash ⟨now, sure0, log, ops, fuse, down⟩ l).Ok := by
        unfold Dk.crash
        simp only
        rw [HX.out]
        have := HC.ok
        exact ⟨this.len, this.most, this.now, this.sure, this.log, this.ops0, this.logs⟩
      have e1 : (Dk.crash ⟨now, sure0, log, ops, fuse, down⟩ l) = ⟨X, X, [], ops, 0, false⟩ := by
        unfold Dk.crash
        simp only
        rw [HX.out]
      rw [e1] at hk ⊢
      have hm : ∀ i, Own p (.slice An n cn) (.slice As n cs) (.slice Al k cl) i → O i ∨ w.heap.size ≤ i := fun i h => .inl (HO.out i h)
      refine ⟨rfl, DAt.did (s := ⟨X, X, [], ops, 0, false⟩) (HC.turn (w' := ((w5.setCell ⟨p, 2, none⟩ (.slice none 0 0)).setCell ⟨p, 5, none⟩ (.bool false)).setCell ⟨p, 4, none⟩ (.int .i64 0)) ?_ ?_ rfl rfl rfl hk) (fun i hi => ?_) ?_⟩
      · exact ((Off.refl (fun i => i = p) _).setCell (p := ⟨p, 5, none⟩) (.inl rfl) _).setCell (p := ⟨p, 4, none⟩) (.inl rfl) _
      · have hb := (HC.blk.put 5 (.bool false)).put 4 (.int .i64 0)
        simpa using hb
      · rcases hi with h1 | h1 | h1 | h1
        · exact hm i (.inl h1)
        · exact hm i (.inr (.inl h1))
        · exact hm i (.inr (.inr (.inl h1)))
        · cases h1
      · have e0 : Off O w wr := hof.out.mono (fun i hi => hm i (.inr (.inr (.inl hi))))
        have e2 := e0.trans HOF5.out (fun i hi => hm i (.inr (.inl hi)))
        exact ((e2.setCell (p := ⟨p, 2, none⟩) (hm p (.inl rfl)) _).setCell (p := ⟨p, 5, none⟩) (hm p (.inl rfl)) _).setCell (p := ⟨p, 4, none⟩) (hm p (.inl rfl)) _
end
end Go.Proofs.Ytjddplddpdcmdaa
