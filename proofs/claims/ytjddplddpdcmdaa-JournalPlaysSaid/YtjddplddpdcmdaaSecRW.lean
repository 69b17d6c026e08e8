/- Contracts of sector.Disk's Read, Write, Flush. -/
import Derived.Test.YtjddplddpdcmdaaSecLit
import Derived.Deep.DeepCutAuto
import Derived.Deep.RegionHeld3
import Derived.Deep.DrawnRows
namespace Go.Proofs.Ytjddplddpdcmdaa
open Go.RowKit
set_option linter.unusedVariables false
set_option linter.unusedSimpArgs false

theorem wp_buildSlice_wr {o : Oper} {a : Act} {w : World} {K : Act → World → Prop} {Q : Exit → Act → World → Prop} (x : Operand) (ho : o.op = .buildSlice 62 1 #[(0, x)]) (cs : List Value) (hx : a.eval x = .agg cs.toArray) (h : cs.length = 65)
    (hk : K (a.put o.dst (.slice (some ⟨w.heap.size, 0, none⟩) 1 1)) (w.alloc (.cells cs.toArray 76))) : o.wp Try.prog a w K Q := by
  unfold Oper.wp execOp
  have hr := run_buildSlice_wr cs h w
  simp only [ho, Sem.run_bind, List.map_toArray, List.map_cons, List.map_nil, hx, hr, Result.andThen_ok]
  exact hk
theorem run_arrayAt_sec (a : Addr) (c : Nat) (w : World) : (Instr.arrayAt 74 (.slice (some a) 64 c)).run Try.prog w = .ok (.pointer (some a)) w := by
  simp [Instr.arrayAt, run_underlying und_sec]
attribute [local go_sem high] run_arrayAt_sec
/-- copy between two rows of one length -/
theorem run_copy_rows {P : Program} {T e : TypeId} {sz bytes : Nat} {z : Value} (he : ElemN P T e sz z bytes) (w : World) (ty : TypeId) {B B' n : Nat} {dv sv : Value} {xs ys : List Value} (hd : w.ownsRow B e sz dv n xs) (hs : w.ownsRow B' e sz sv n ys) (h1 : ∀ u ∈ ys, u.oneCell' = true) :
    ∃ w', (Builtin.copy_ #[T, T] ty #[dv, sv]).run P w = .ok (goInt n) w' ∧ w'.ownsRow B e sz dv n ys ∧ Off (fun i => dv.ownBlock = some i) w w' := by
  obtain ⟨i, hi, hz, hsz, hb⟩ := info_parts he.info
  have hmap : (P.info? e).map (·.size) = some sz := by rw [hi]; simp [hsz]
  rcases Nat.eq_zero_or_pos n with h0 | h0
  · subst h0
    obtain ⟨A, c, rfl⟩ := own_form hd
    obtain ⟨A', c', rfl⟩ := own_form hs
    have hx : xs = [] := List.eq_nil_of_length_eq_zero (by have := hd.1; omega)
    have hy : ys = [] := List.eq_nil_of_length_eq_zero (by have := hs.1; omega)
    subst hx hy
    exact ⟨w, run_copyN_none w T T ty e A A' 0 c 0 c' sz he.und hmap rfl, hd, Off.refl _ _⟩
  · obtain ⟨g, cap, rest, rfl, hbg, hlt, hnc, hcm, hlen, hxl, hblk⟩ := own_blkN hd h0
    obtain ⟨g', cap', rest', rfl, hbg', hlt', hnc', hcm', hlen', hxl', hblk'⟩ := own_blkN hs h0
    have hfit : 0 + ys.length ≤ (xs ++ rest).length := by rw [List.length_append, hxl, hxl']; omega
    refine ⟨w.setCells g 0 ys, run_copyN w T T ty e g 0 n cap n cap' sz n ⟨g', 0, none⟩ ys he.und hmap (Nat.min_self n) hxl' (fun j v hj => ?_) (hblk.there 0 _ hfit) h1, ?_, (Off.refl _ w).setCells ys 0 (.inl rfl)⟩
    · rw [addr_add, Nat.zero_add, hblk'.cell, List.getElem?_append_left (List.getElem?_eq_some_iff.1 hj).1]
      exact hj
    · have h2 := Blk.setCells ys 0 hblk hfit
      rw [List.take_zero, List.nil_append, Nat.zero_add, hxl', ← hxl, List.drop_left' rfl] at h2
      have h3 := h2.own (size := sz) hbg hnc hcm (by rw [List.length_append] at hlen ⊢; omega)
      rwa [List.take_left' hxl'] at h3
theorem wp_copy_rows {P : Program} {T e : TypeId} {sz bytes : Nat} {z : Value} (he : ElemN P T e sz z bytes) {o : Oper} {a : Act} {w : World} {K : Act → World → Prop} {Q : Exit → Act → World → Prop} (d s : Operand)
    (ho : o.op = .call { callee := .builtin .copy, args := #[d, s], argTypes := #[T, T] }) {B B' n : Nat} (dv sv : Value) {xs ys : List Value} (hdv : a.eval d = dv) (hsv : a.eval s = sv) (hd : w.ownsRow B e sz dv n xs) (hs : w.ownsRow B' e sz sv n ys) (h1 : ∀ u ∈ ys, u.oneCell' = true)
    (hk : ∀ w', w'.ownsRow B e sz dv n ys → Off (fun i => dv.ownBlock = some i) w w' → K (a.put o.dst (goInt n)) w') : o.wp P a w K Q := by
  obtain ⟨w', hrun, h2, h3⟩ := run_copy_rows he w o.type hd hs h1
  unfold Oper.wp execOp
  simp only [ho, resolve, invoke, builtin, Sem.run_bind, Sem.run_pure, Result.andThen_ok, List.map_toArray, List.map_cons, List.map_nil, hdv, hsv, hrun]
  exact hk w' h2 h3

/-- what Read tells -/
def ReadGot (w : World) (r : List UInt8 × Int) (en : Ending) (w' : World) : Prop :=
  Below w.heap.size w w' ∧ ((r.2 ≠ 0 ∧ r.1 = [] ∧ en = .returned (.tuple #[.slice none 0 0, .int .i64 r.2])) ∨ (r.2 = 0 ∧ r.1.length = 64 ∧ ∃ g, en = .returned (.tuple #[.slice (some ⟨g, 0, none⟩) 64 64, .int .i64 0]) ∧ w.heap.size ≤ g ∧ Blk w' g 74 (bytesV r.1)))
section
variable {B p : Nat} {O S : Nat → Prop} {w w' w5 : World} {s s' : Dk} {nv sv lv lv' : Value}
theorem Did.refl (h : DiskIs B O w p s) : Did B O w p s w := ⟨h.imp (fun i hi _ _ => .inl hi), Off.refl _ _⟩
set_option maxHeartbeats 800000 in
set_option maxRecDepth 100000 in
theorem sread_any (h : DiskIs B O w p s) (i : Int) (r : List UInt8 × Int) (hr : s.read i = r) : Calls Try.prog 17 #[.pointer (some ⟨p, 0, none⟩), .int .i64 i] w (ReadGot w r) := by
  obtain ⟨b, hb⟩ : ∃ b, s.hasI i = b := ⟨_, rfl⟩
  have HH := Lib.hid (shas_any h i b hb)
  have HR := Lib.hid hr
  cases b with
  | false =>
    have HW : Hid (r = ([], 1)) := Lib.hid (by rw [← HR.out]; unfold Dk.read; rw [if_neg (by rw [hb]; simp)])
    clear h hr hb
    go_enter Try.func17, Try.ntmps17
    go_wp2_with (go_at_call 36; refine HH.out.mono ?_; rintro en w' ⟨rfl, rfl⟩)
    refine bodyPost_ret (v := .tuple #[.slice none 0 0, .int .i64 1]) (by simp [results, Try.results17, go_sem]) rfl ?_
    rw [HW.out]
    exact ⟨Below.refl _ _, .inl ⟨by simp, rfl, rfl⟩⟩
  | true =>
    obtain ⟨k, rfl, hk⟩ := Dk.hasI_nat hb
    obtain ⟨nv, sv, lv, hd, hO⟩ := h
    have k5 := hd.blk.cell 5
    have k0 := hd.blk.cell 0
    simp only [List.getElem?_cons_zero, List.getElem?_cons_succ] at k0 k5
    obtain ⟨x, hx⟩ : ∃ x, s.now[k]? = some x := ⟨s.now[k], List.getElem?_eq_getElem hk⟩
    have hxl := hd.ok.now x (List.mem_of_getElem? hx)
    obtain ⟨g, c, rfl, hBg, hrg, hth⟩ := own_range hd.now (secs_len hd.ok.now) rfl hx
    obtain ⟨dn, hdn⟩ : ∃ d, s.down = d := ⟨_, rfl⟩
    rw [hdn] at k5
    have HXG : Hid (s.now.getD k [] = x) := Lib.hid (by rw [List.getD_eq_getElem?_getD, hx]; rfl)
    have HDN := Lib.hid hdn
    have HB := Lib.hid hb
    have HX := Lib.hid hxl
    have HRG := Lib.hid hrg
    obtain ⟨n, hn⟩ : ∃ n, s.now.length = n := ⟨_, rfl⟩
    rw [hn] at k0 hk
    have i0 : (0 : Int) ≤ (k : Int) := by omega
    have i1 : (k : Int) < (n : Int) := by omega
    clear hr hb hdn hx hrg hth hxl hd hO
    cases dn with
    | true =>
      have HW : Hid (r = ([], 9)) := Lib.hid (by rw [← HR.out]; unfold Dk.read; rw [if_pos HB.out, if_pos HDN.out])
      go_enter Try.func17, Try.ntmps17
      go_wp2_with (go_at_call 36; refine HH.out.mono ?_; rintro en w' ⟨rfl, rfl⟩)
      refine bodyPost_ret (v := .tuple #[.slice none 0 0, .int .i64 9]) (by simp [results, Try.results17, go_sem]) rfl ?_
      rw [HW.out]
      exact ⟨Below.refl _ _, .inl ⟨by simp, rfl, rfl⟩⟩
    | false =>
      have HW : Hid (r = (x, 0)) := Lib.hid (by
        rw [← HR.out]
        unfold Dk.read
        rw [if_pos HB.out, if_neg (by rw [HDN.out]; simp), Int.toNat_natCast, HXG.out])
      have kz := Blk.freshA w 74 zSec.toArray
      have HT : Hid ((w.alloc (.cells zSec.toArray 74)).there w.heap.size 0 (bytesV x).toArray.size) := Lib.hid (by
        have := kz.there 0 (bytesV x).toArray.size (by simp [length_bytesV, HX.out, len_zSec])
        exact this)
      have HS1 : Hid ((Try.prog.info? 74).map (·.size) = some (bytesV x).length) := Lib.hid (by rw [length_bytesV, HX.out]; exact size_sec)
      have HS2 : Hid ((Try.prog.info? 74).map (·.size) = some (bytesV x).toArray.size) := Lib.hid (by rw [List.size_toArray, length_bytesV, HX.out]; exact size_sec)
      have HKZ : Hid (Blk ((w.alloc (.cells zSec.toArray 74)).setCells w.heap.size 0 (bytesV x)) w.heap.size 74 (bytesV x)) := Lib.hid (by
        have h2 := Blk.setCells (bytesV x) 0 kz (by simp [length_bytesV, HX.out, len_zSec])
        rw [List.take_zero, List.nil_append, List.drop_of_length_le (by simp [length_bytesV, HX.out, len_zSec]), List.append_nil] at h2
        exact h2)
      have HO1 := Lib.hid (all_oneCell_toArray (bytesV_one x))
      clear kz
      go_enter Try.func17, Try.ntmps17
      go_wp2_with (first
        | (go_at_call 36; refine HH.out.mono ?_; rintro en w' ⟨rfl, rfl⟩)
        | (refine wpList_load_mid rfl 74 (.tmp 22) rfl g (k * 64) rfl (bytesV x) _ HRG.out und_sec rfl HS1.out ?_)
        | (refine wpList_alloc_of rfl 74 rfl zSec.toArray 64 info_sec ?_)
        | (refine wpList_store_mid rfl 74 (.tmp 6) (.tmp 23) rfl w.heap.size 0 (bytesV x).toArray rfl rfl HT.out HS2.out HO1.out ?_))
      refine bodyPost_ret (v := .tuple #[.slice (some ⟨w.heap.size, 0, none⟩) 64 64, .int .i64 0]) (by simp [results, Try.results17, go_sem]) rfl ?_
      rw [HW.out]
      refine ⟨?_, .inr ⟨rfl, HX.out, _, rfl, Nat.le_refl _, HKZ.out⟩⟩
      exact (((Off.refl (fun i => w.heap.size ≤ i) w).alloc _).setCells (bytesV x) 0 (.inr (Nat.le_refl _))).below (Nat.le_refl _) (fun i hi => hi)

theorem DAt.stored {g c k : Nat} (h : DAt B w p (.slice (some ⟨g, 0, none⟩) s.now.length c) sv lv s) (hk : k < s.now.length) {b : List UInt8} (hb : b.length = 64) (hok : Dk.Ok { s with now := s.now.set k b }) :
    DAt B (w.setCells g (k * 64) (bytesV b)) p (.slice (some ⟨g, 0, none⟩) s.now.length c) sv lv { s with now := s.now.set k b } := by
  have ho : Off (fun i => i = g) w (w.setCells g (k * 64) (bytesV b)) := (Off.refl _ w).setCells (bytesV b) (k * 64) (.inl rfl)
  have hnow := own_setAt h.now (secs_len h.ok.now) rfl hk b (by rw [length_bytesV, hb])
  refine ⟨h.blk.off ho (fun e => h.np (by rw [e]; rfl)), ?_, own_off h.sure ho (fun i hi e => h.ns g rfl (by rw [hi, e])), own_off h.log ho (fun i hi e => h.nl g rfl (by rw [hi, e])), h.pB, h.np, h.sp, h.lp, h.ns, h.nl, h.sl, hok⟩
  simp only [List.length_set]
  exact hnow
theorem DAt.logged (h : DAt B w p nv sv lv s) (ho : Off (fun i => lv.ownBlock = some i) w w5) {n : Nat} (hn : n = s'.log.length) (hown : w5.ownsRow B 76 65 lv' n (s'.log.flatMap wrV))
    (hf : ∀ i, lv'.ownBlock = some i → lv.ownBlock = some i ∨ w.heap.size ≤ i) (hok : s'.Ok) (e1 : s'.now = s.now) (e2 : s'.sure = s.sure) (e3 : s'.ops = s.ops) (e4 : s'.fuse = s.fuse) (e5 : s'.down = s.down) :
    DAt B (w5.setCell ⟨p, 2, none⟩ lv') p nv sv lv' s' := by
  subst hn
  have hp := h.blk.lt
  have hfp : lv'.ownBlock ≠ some p := fun e => by
    rcases hf p e with h1 | h1
    · exact h.lp h1
    · omega
  have hb := (h.blk.off ho h.lp).put 2 lv'
  have h2 : Off (fun i => i = p) w5 (w5.setCell ⟨p, 2, none⟩ lv') := (Off.refl (fun i => i = p) w5).setCell (p := ⟨p, 2, none⟩) (.inl rfl) _
  refine ⟨by simpa [e3, e4, e5] using hb, ?_, ?_, own_off hown h2 (fun i hi e => hfp (by rw [hi, e])), h.pB, h.np, h.sp, hfp, h.ns, fun i hi e => ?_, fun i hi e => ?_, hok⟩
  · rw [e1]; exact own_off (own_off h.now ho (fun i hi e => h.nl i hi e)) h2 (fun i hi e => h.np (by rw [hi, e]))
  · rw [e2]; exact own_off (own_off h.sure ho (fun i hi e => h.sl i hi e)) h2 (fun i hi e => h.sp (by rw [hi, e]))
  · rcases hf i e with h1 | h1
    · exact h.nl i hi h1
    · have := (h.now.lt i hi).2; omega
  · rcases hf i e with h1 | h1
    · exact h.sl i hi h1
    · have := (h.sure.lt i hi).2; omega
set_option maxHeartbeats 1600000 in
set_option maxRecDepth 100000 in
theorem swrite_any (h : DiskIs B O w p s) (hBw : B ≤ w.heap.size) (ho : s.ops < 1000000000) (i : Int) (bv : Value) (bs : List UInt8) (hbs : ReadsIn 1 S w bv (bytesV bs)) (hS : ∀ g, S g → g < w.heap.size → ¬ O g) :
    Calls Try.prog 18 #[.pointer (some ⟨p, 0, none⟩), .int .i64 i, bv] w fun en w' => en = .returned (.int .i64 (s.write i bs).2) ∧ Did B O w p (s.write i bs).1 w' := by
  obtain ⟨b, hb⟩ : ∃ b, s.hasI i = b := ⟨_, rfl⟩
  have HH := Lib.hid (shas_any h i b hb)
  have HD := Lib.hid h
  obtain ⟨A, c, rfl, hc1, hc2⟩ := hbs.reads.form
  rw [length_bytesV] at hbs ⊢
  have HBS := Lib.hid hbs
  cases b with
  | false =>
    have HW : Hid (s.write i bs = (s, 1)) := Lib.hid (by unfold Dk.write; rw [if_neg (by rw [hb]; simp)])
    clear h hb hbs hc1 hc2
    go_enter Try.func18, Try.ntmps18
    go_wp2_with (go_at_call 36; refine HH.out.mono ?_; rintro en w' ⟨rfl, rfl⟩)
    go_ret
    rw [HW.out]
    exact ⟨rfl, Did.refl HD.out⟩
  | true =>
    by_cases h64 : bs.length = 64
    · obtain ⟨k, rfl, hk⟩ := Dk.hasI_nat hb
      have HKL := Lib.hid hk
      obtain ⟨dn, hdn⟩ : ∃ d, s.oper.down = d := ⟨_, rfl⟩
      have HOP := Lib.hid (soper_any h (by omega))
      rw [hdn] at HOP
      have H64 := Lib.hid h64
      rw [h64] at hbs HBS ⊢
      have t1 : ((64 : Int) != 64) = false := by decide
      cases dn with
      | true =>
        have HW : Hid (s.write k bs = (s.oper, 9)) := Lib.hid (by unfold Dk.write; rw [if_pos ⟨hb, H64.out⟩, if_pos hdn])
        clear h hb hbs hc1 hc2 h64 hk hdn
        go_enter Try.func18, Try.ntmps18
        go_wp2_with (first
          | (go_at_call 36; refine HH.out.mono ?_; rintro en w' ⟨rfl, rfl⟩)
          | (go_at_call 37; refine HOP.out.mono ?_; rintro en w2 ⟨rfl, hdid⟩; have HDID := Lib.hid hdid; clear hdid))
        go_ret
        rw [HW.out]
        exact ⟨rfl, HDID.out⟩
      | false =>
        have HW : Hid (s.write k bs = (s.oper.wrote k bs, 0)) := Lib.hid (by unfold Dk.write; rw [if_pos ⟨hb, H64.out⟩, if_neg (by rw [hdn]; simp), Int.toNat_natCast])
        have HOK : Hid (s.oper.wrote k bs).Ok := Lib.hid (Dk.wrote_ok h.ok hk h64)
        clear h hb hbs hc1 hc2 h64 hk hdn
        go_enter Try.func18, Try.ntmps18
        go_wp2_with fail
        refine HH.out.mono ?_
        rintro en w' ⟨rfl, rfl⟩
        go_wp2_with fail
        refine HOP.out.mono ?_
        rintro en w1 ⟨rfl, hdid⟩
        have HDID := Lib.hid hdid
        obtain ⟨nv, sv, lv, hd, hO⟩ := hdid.is
        obtain ⟨Al, cl, rfl⟩ := own_form hd.log
        have hb1 := HBS.out.off hdid.off (fun g h1 h2 => hS g h1 h2)
        obtain ⟨A', n', c', e', hl', hc', hm', ha'⟩ := hb1
        injection e' with e1 e2 e3
        subst e1 e2 e3
        obtain ⟨gb, ob, rfl, hSb, hgb, hrb⟩ := ha'.out (by omega)
        have hk1 : k < s.oper.now.length := HKL.out
        obtain ⟨x, hx⟩ : ∃ x, s.oper.now[k]? = some x := ⟨s.oper.now[k], List.getElem?_eq_getElem hk1⟩
        obtain ⟨g, cn, rfl, hBg, _, hth⟩ := own_range hd.now (secs_len hd.ok.now) rfl hx
        have k0 := hd.blk.cell 0
        have k2 := hd.blk.cell 2
        simp only [List.getElem?_cons_zero, List.getElem?_cons_succ] at k0 k2
        have hlb : (bytesV bs).length = 64 := by rw [length_bytesV, H64.out]
        have HS1 : Hid ((Try.prog.info? 74).map (·.size) = some (bytesV bs).length) := Lib.hid (by rw [hlb]; exact size_sec)
        have HS2 : Hid ((Try.prog.info? 74).map (·.size) = some (bytesV bs).toArray.size) := Lib.hid (by rw [List.size_toArray, hlb]; exact size_sec)
        have HS3 : Hid ((Try.prog.info? 76).map (·.size) = some (Value.int .i64 (k : Int) :: bytesV bs).toArray.size) := Lib.hid (by rw [List.size_toArray, List.length_cons, hlb]; exact size_wr)
        have HS4 : Hid ((Try.prog.info? 76).map (·.size) = some (Value.int .i64 (k : Int) :: bytesV bs).length) := Lib.hid (by rw [List.length_cons, hlb]; exact size_wr)
        have HO1 := Lib.hid (all_oneCell_toArray (bytesV_one bs))
        have HO2 : Hid ((Value.int .i64 (k : Int) :: bytesV bs).toArray.all (·.oneCell') = true) := Lib.hid (all_oneCell_toArray (fun v hv => by
          rcases List.mem_cons.1 hv with rfl | hv
          · rfl
          · exact bytesV_one bs v hv))
        have HRB : Hid (w1.rangeAt gb ob (bytesV bs)) := Lib.hid hrb
        have HLB := Lib.hid hlb
        have kz := Blk.freshA w1 76 zWr.toArray
        have HT : Hid ((w1.alloc (.cells zWr.toArray 76)).there w1.heap.size 0 (Value.int .i64 (k : Int) :: bytesV bs).toArray.size) := Lib.hid (kz.there 0 _ (by simp [hlb, len_zWr]))
        have hoff2 : Off (fun i => w1.heap.size ≤ i) w1 ((w1.alloc (.cells zWr.toArray 76)).setCells w1.heap.size 0 (Value.int .i64 (k : Int) :: bytesV bs).toArray.toList) :=
          ((Off.refl (fun i => w1.heap.size ≤ i) w1).alloc _).setCells _ 0 (.inr (Nat.le_refl _))
        have hbq : Blk ((w1.alloc (.cells zWr.toArray 76)).setCells w1.heap.size 0 (Value.int .i64 (k : Int) :: bytesV bs).toArray.toList) w1.heap.size 76 (Value.int .i64 (k : Int) :: bytesV bs) := by
          have h2 := Blk.setCells (Value.int .i64 (k : Int) :: bytesV bs) 0 kz (by simp [hlb, len_zWr])
          rw [List.take_zero, List.nil_append, List.drop_of_length_le (by simp [hlb, len_zWr]), List.append_nil] at h2
          exact h2
        have hd2 := hd.off hoff2 (fun j hj => by have := (hd.lt j hj).2; omega)
        have HD2 := Lib.hid hd2
        have HQ := Lib.hid hbq
        have HOF2 := Lib.hid hoff2
        have HOO := Lib.hid hO
        have hsz2 := hoff2.size
        have hqlt := hbq.lt
        have c0 : ((w1.alloc (.cells zWr.toArray 76)).setCells w1.heap.size 0 (Value.int .i64 (k : Int) :: bytesV bs).toArray.toList).cell? ⟨p, 0, none⟩ = some (.slice (some ⟨g, 0, none⟩) s.oper.now.length cn) := by
          have := hd2.blk.cell 0
          simpa only [List.getElem?_cons_zero, List.getElem?_cons_succ] using this
        have hgl : g < w1.heap.size := (hd.now.lt g rfl).2
        have HLL : Hid (∀ i, (Value.slice Al s.oper.log.length cl).ownBlock = some i → i < w1.heap.size) := Lib.hid (fun i hi => (hd.log.lt i hi).2)
        have HLG : Hid (s.oper.log.length ≤ 1000000000) := Lib.hid (by have h1 := hd.ok.logs; have h2 : s.oper.ops = s.ops + 1 := rfl; omega)
        have hs1 := hdid.off.size
        have hpl : p < w1.heap.size := hd.blk.lt
        obtain ⟨n, hn⟩ : ∃ n, s.oper.now.length = n := ⟨_, rfl⟩
        rw [hn] at c0 hk1
        have HN := Lib.hid hn
        have i0 : (0 : Int) ≤ (k : Int) := by omega
        have i1 : (k : Int) < (n : Int) := by omega
        clear hdid hd hO hl' hc' hm' ha' hrb hx hth k0 k2 kz hoff2 hbq hd2 hlb hn
        have HC0 := Lib.hid c0
        clear c0
        go_upto_region 6 with (first
          | (refine wpList_load_mid rfl 74 (.tmp 22) rfl gb ob rfl (bytesV bs) _ HRB.out und_sec rfl HS1.out ?_)
          | (refine wpList_build_wr rfl (.tmp 20) (.tmp 23) rfl k (bytesV bs) rfl rfl HLB.out ?_)
          | (refine wpList_alloc_of rfl 76 rfl zWr.toArray 65 info_wr ?_)
          | (refine wpList_store_mid rfl 76 (.tmp 7) (.tmp 24) rfl w1.heap.size 0 (Value.int .i64 (k : Int) :: bytesV bs).toArray rfl rfl HT.out HS3.out HO2.out ?_))
        simp only [Act.put, List.setIfInBounds_toArray, List.set_cons_zero, List.set_cons_succ]
        generalize ((w1.alloc (.cells zWr.toArray 76)).setCells w1.heap.size 0 (Value.int .i64 (k : Int) :: bytesV bs).toArray.toList) = w2 at HD2 HQ HOF2 hsz2 hqlt HC0 ⊢
        have HRQ : Hid (w2.rangeAt w1.heap.size 1 (bytesV bs)) := Lib.hid (HQ.out.range 1 (bytesV bs) (by simp))
        have HRQ0 : Hid (w2.rangeAt w1.heap.size 0 (Value.int .i64 (k : Int) :: bytesV bs)) := Lib.hid (HQ.out.range 0 _ (by simp))
        refine wp_region_held_drew (S := (fun w' => w'.cell? ⟨p, 0, none⟩ = some (.slice (some ⟨g, 0, none⟩) n cn) ∧ w'.rangeAt w1.heap.size 1 (bytesV bs))) (by kernel_rfl) (⟨HC0.out, HRQ.out⟩) (fun hHeld => ?_)
        refine' wpAnyH_take (i := 0) (v := _) rfl (by kernel_rfl) (by kernel_rfl) (by kernel_rfl) (fun _ _ _ h => h) (Or.inl ⟨by rfl, ?taq1⟩) (by assumption) ?tbq1
        case taq1 =>
          intro wS hSw
          (try dsimp only at hSw)
          go_simp
          (try (with_reducible rfl))
        (try simp only [List.getElem_toArray, List.getElem_cons_zero, List.getElem_cons_succ, Act.put, List.setIfInBounds_toArray, List.set_cons_zero, List.set_cons_succ])
        refine' wpAnyH_take (i := 1) (v := _) rfl (by kernel_rfl) (by kernel_rfl) (by kernel_rfl) (fun _ _ _ h => h) (Or.inl ⟨by rfl, ?taq2⟩) (by assumption) ?tbq2
        case taq2 =>
          intro wS hSw
          (try dsimp only at hSw)
          go_simp
          (try (with_reducible rfl))
        (try simp only [List.getElem_toArray, List.getElem_cons_zero, List.getElem_cons_succ, Act.put, List.setIfInBounds_toArray, List.set_cons_zero, List.set_cons_succ])
        refine' wpAnyH_take (i := 2) (v := _) rfl (by kernel_rfl) (by kernel_rfl) (by kernel_rfl) (fun _ _ _ h => h) (Or.inl ⟨by rfl, ?taq3⟩) (by assumption) ?tbq3
        case taq3 =>
          intro wS hSw
          (try dsimp only at hSw)
          go_simp
          (try (with_reducible rfl))
        (try simp only [List.getElem_toArray, List.getElem_cons_zero, List.getElem_cons_succ, Act.put, List.setIfInBounds_toArray, List.set_cons_zero, List.set_cons_succ])
        refine' wpAnyH_take (i := 3) (v := _) rfl (by kernel_rfl) (by kernel_rfl) (by kernel_rfl) (fun _ _ _ h => h) (Or.inl ⟨by rfl, ?taq4⟩) (by assumption) ?tbq4
        case taq4 =>
          intro wS hSw
          (try dsimp only at hSw)
          go_simp
          (try (with_reducible rfl))
        (try simp only [List.getElem_toArray, List.getElem_cons_zero, List.getElem_cons_succ, Act.put, List.setIfInBounds_toArray, List.set_cons_zero, List.set_cons_succ])
        refine' wpAnyH_take (i := 4) (v := _) rfl (by kernel_rfl) (by kernel_rfl) (by kernel_rfl) (fun _ _ _ h => h) (Or.inl ⟨by rfl, ?taq5⟩) (by assumption) ?tbq5
        case taq5 =>
          intro wS hSw
          (try dsimp only at hSw)
          go_simp
          (try (with_reducible rfl))
        (try simp only [List.getElem_toArray, List.getElem_cons_zero, List.getElem_cons_succ, Act.put, List.setIfInBounds_toArray, List.set_cons_zero, List.set_cons_succ])
        refine' wpAnyH_take (i := 5) (v := _) rfl (by kernel_rfl) (by kernel_rfl) (by kernel_rfl) (fun _ _ _ h => h) (Or.inl ⟨by rfl, ?taq6⟩) (by assumption) ?tbq6
        case taq6 =>
          intro wS hSw
          (try dsimp only at hSw)
          go_simp
          (try (with_reducible rfl))
        (try simp only [List.getElem_toArray, List.getElem_cons_zero, List.getElem_cons_succ, Act.put, List.setIfInBounds_toArray, List.set_cons_zero, List.set_cons_succ])
        refine' wpAnyH_take (i := 6) (v := _) rfl (by kernel_rfl) (by kernel_rfl) (by kernel_rfl) (fun _ _ _ h => h) (yieldsIf_load_mid (by rfl) 74 (.tmp 30) rfl w1.heap.size 1 (by rfl) (bytesV bs) _ (fun _ h => h.2) und_sec rfl HS1.out) (by assumption) ?tbq7
        (try simp only [List.getElem_toArray, List.getElem_cons_zero, List.getElem_cons_succ, Act.put, List.setIfInBounds_toArray, List.set_cons_zero, List.set_cons_succ])
        refine' wpAnyH_take (i := 7) (v := _) rfl (by kernel_rfl) (by kernel_rfl) (by kernel_rfl) (fun _ _ _ h => h) (Or.inl ⟨by rfl, ?taq8⟩) (by assumption) ?tbq8
        case taq8 =>
          intro wS hSw
          (try dsimp only at hSw)
          go_simp
          (try (with_reducible rfl))
        (try simp only [List.getElem_toArray, List.getElem_cons_zero, List.getElem_cons_succ, Act.put, List.setIfInBounds_toArray, List.set_cons_zero, List.set_cons_succ])
        refine wpAnyH_ready (rs := [8]) (by kernel_rfl) (by simp) ?_
        refine AllReadyH.cons rfl (fun K9 hK9 => ?_) AllReadyH.nil
        have hth2 : (w2.drew).there g (k * 64) (bytesV bs).toArray.size := by
          have hd3 := HD2.out.now
          obtain ⟨y, hy⟩ : ∃ y, s.oper.now[k]? = some y := ⟨s.oper.now[k]'(by rw [HN.out]; exact hk1), List.getElem?_eq_getElem _⟩
          obtain ⟨g', c', e', _, _, ht'⟩ := own_range hd3 (secs_len HD2.out.ok.now) rfl hy
          injection e' with e1 e2 e3
          injection e1 with e1
          injection e1 with e1
          subst e1
          rw [List.size_toArray, HLB.out]
          exact ht'
        have HT2 := Lib.hid hth2
        clear hth2
        have hok3 : Dk.Ok { s.oper with now := s.oper.now.set k bs } := ⟨by simpa using HD2.out.ok.len, by simpa using HD2.out.ok.most, HOK.out.now, HD2.out.ok.sure, fun e he => by simpa using HD2.out.ok.log e he, HD2.out.ok.ops0, HD2.out.ok.logs⟩
        have hd3 := DAt.stored HD2.out (k := k) (by rw [HN.out]; exact hk1) H64.out hok3
        have HD3 : Hid (DAt B (w2.drew.setCells g (k * 64) (bytesV bs).toArray.toList) p (.slice (some ⟨g, 0, none⟩) s.oper.now.length cn) sv (.slice Al s.oper.log.length cl) { s.oper with now := s.oper.now.set k bs }) := Lib.hid (DAt.stored (w := w2.drew) (HD2.out.off ((Off.refl (fun _ => False) w2).drew) (fun _ _ h => h)) (k := k) (by rw [HN.out]; exact hk1) H64.out hok3)
        have HOF3 : Hid (Off (fun i => i = g) w2 (w2.drew.setCells g (k * 64) (bytesV bs).toArray.toList)) := Lib.hid (((Off.refl (fun i => i = g) w2).drew).setCells _ (k * 64) (.inl rfl))
        clear hok3 hd3
        (try simp only [List.getElem_toArray, List.getElem_cons_zero, List.getElem_cons_succ])
        rw [if_pos (by rfl)]
        refine wp_store_mid 74 (.tmp 32) (.tmp 31) (by rfl) g (k * 64) (bytesV bs).toArray (by rfl) (by rfl) HT2.out HS2.out HO1.out ?_
        refine hK9.out _ _ (⟨by have := HD3.out.blk.cell 0; rw [HN.out] at this; exact this, fun j v hv => (HOF3.out.cell (p := ⟨w1.heap.size, 1 + j, none⟩) hqlt (by show ¬ w1.heap.size = g; omega)).trans (HRQ.out j v hv)⟩) (fun hHeld9 => ?_)
        clear hK9 K9
        (try simp only [List.getElem_toArray, List.getElem_cons_zero, List.getElem_cons_succ, Act.put, List.setIfInBounds_toArray, List.set_cons_zero, List.set_cons_succ])
        refine wpAnyH_done (by kernel_rfl) ?_ _
        go_upto_region 7 with fail
        have hsz3 := HOF3.out.size
        have HRQ3 : Hid ((w2.drew.setCells g (k * 64) (bytesV bs).toArray.toList).rangeAt w1.heap.size 0 (Value.int .i64 (k : Int) :: bytesV bs)) := Lib.hid (fun j v hv => (HOF3.out.cell (p := ⟨w1.heap.size, 0 + j, none⟩) hqlt (by show ¬ w1.heap.size = g; omega)).trans (HRQ0.out j v hv))
        generalize (w2.drew.setCells g (k * 64) (bytesV bs).toArray.toList) = w3 at HD3 HOF3 HRQ3 hsz3 ⊢
        clear HT HT2 HC0 HRQ HRQ0 HRB HH HOP
        have c2 : w3.cell? ⟨p, 2, none⟩ = some (.slice Al s.oper.log.length cl) := by
          have := HD3.out.blk.cell 2
          simpa only [List.getElem?_cons_zero, List.getElem?_cons_succ] using this
        have c2b : (w3.alloc (.cells (Value.int .i64 (k : Int) :: bytesV bs).toArray 76)).cell? ⟨p, 2, none⟩ = some (.slice Al s.oper.log.length cl) := by
          have h3 : Off (fun _ => False) w3 (w3.drew.alloc (.cells (Value.int .i64 (k : Int) :: bytesV bs).toArray 76)) := ((Off.refl (fun _ => False) w3).drew).alloc _
          exact (h3.cell (p := ⟨p, 2, none⟩) (by show p < _; omega) (fun h => h)).trans c2
        have HLN : Hid ((Value.int .i64 (k : Int) :: bytesV bs).length = 65) := Lib.hid (by rw [List.length_cons, HLB.out])
        refine wp_region_held_drew (S := (fun w' => w'.rangeAt w1.heap.size 0 (Value.int .i64 (k : Int) :: bytesV bs))) (by kernel_rfl) (HRQ3.out) (fun hHeld => ?_)
        refine' wpAnyH_take (i := 0) (v := _) rfl (by kernel_rfl) (by kernel_rfl) (by kernel_rfl) (fun _ _ _ h => h) (Or.inl ⟨by rfl, ?taq9⟩) (by assumption) ?tbq9
        case taq9 =>
          intro wS hSw
          (try dsimp only at hSw)
          go_simp
          (try (with_reducible rfl))
        (try simp only [List.getElem_toArray, List.getElem_cons_zero, List.getElem_cons_succ, Act.put, List.setIfInBounds_toArray, List.set_cons_zero, List.set_cons_succ])
        refine' wpAnyH_take (i := 1) (v := _) rfl (by kernel_rfl) (by kernel_rfl) (by kernel_rfl) (fun _ _ _ h => h) (Or.inl ⟨by rfl, ?taq10⟩) (by assumption) ?tbq10
        case taq10 =>
          intro wS hSw
          (try dsimp only at hSw)
          go_simp
          (try (with_reducible rfl))
        (try simp only [List.getElem_toArray, List.getElem_cons_zero, List.getElem_cons_succ, Act.put, List.setIfInBounds_toArray, List.set_cons_zero, List.set_cons_succ])
        refine' wpAnyH_take (i := 2) (v := _) rfl (by kernel_rfl) (by kernel_rfl) (by kernel_rfl) (fun _ _ _ h => h) (Or.inl ⟨by rfl, ?taq11⟩) (by assumption) ?tbq11
        case taq11 =>
          intro wS hSw
          (try dsimp only at hSw)
          go_simp
          (try (with_reducible rfl))
        (try simp only [List.getElem_toArray, List.getElem_cons_zero, List.getElem_cons_succ, Act.put, List.setIfInBounds_toArray, List.set_cons_zero, List.set_cons_succ])
        refine' wpAnyH_take (i := 3) (v := _) rfl (by kernel_rfl) (by kernel_rfl) (by kernel_rfl) (fun _ _ _ h => h) (Or.inl ⟨by rfl, ?taq12⟩) (by assumption) ?tbq12
        case taq12 =>
          intro wS hSw
          (try dsimp only at hSw)
          go_simp
          (try (with_reducible rfl))
        (try simp only [List.getElem_toArray, List.getElem_cons_zero, List.getElem_cons_succ, Act.put, List.setIfInBounds_toArray, List.set_cons_zero, List.set_cons_succ])
        refine' wpAnyH_take (i := 5) (v := _) rfl (by kernel_rfl) (by kernel_rfl) (by kernel_rfl) (fun _ _ _ h => h) (yieldsIf_load_mid (by rfl) 76 (.tmp 7) (by rfl) w1.heap.size 0 (by rfl) (Value.int .i64 (k : Int) :: bytesV bs) _ (fun _ h => h) Try.underlying76 rfl HS4.out) (by assumption) ?tbq13
        (try simp only [List.getElem_toArray, List.getElem_cons_zero, List.getElem_cons_succ, Act.put, List.setIfInBounds_toArray, List.set_cons_zero, List.set_cons_succ])
        refine wpAnyH_ready (rs := [4, 6]) (by kernel_rfl) (by simp) ?_
        refine AllReadyH.cons rfl (fun K9 hK9 => ?_) (AllReadyH.cons rfl (fun K9 hK9 => ?_) AllReadyH.nil)
        · (try simp only [List.getElem_toArray, List.getElem_cons_zero, List.getElem_cons_succ])
          go_simp
          refine hK9.out _ _ (HRQ3.out) (fun hHeld9 => ?_)
          clear hK9 K9
          (try simp only [List.getElem_toArray, List.getElem_cons_zero, List.getElem_cons_succ, Act.put, List.setIfInBounds_toArray, List.set_cons_zero, List.set_cons_succ])
          refine wpAnyH_ready (rs := [6]) (by kernel_rfl) (by simp) ?_
          refine AllReadyH.cons rfl (fun K9 hK9 => ?_) AllReadyH.nil
          (try simp only [List.getElem_toArray, List.getElem_cons_zero, List.getElem_cons_succ])
          rw [if_pos (by rfl)]
          refine wp_buildSlice_wr (.tmp 38) (by rfl) (Value.int .i64 (k : Int) :: bytesV bs) (by rfl) HLN.out ?_
          refine hK9.out _ _ ((World.rangeAt_alloc (w := w3.drew) HRQ3.out _)) (fun hHeld9 => ?_)
          clear hK9 K9
          (try simp only [List.getElem_toArray, List.getElem_cons_zero, List.getElem_cons_succ, Act.put, List.setIfInBounds_toArray, List.set_cons_zero, List.set_cons_succ])
          refine wpAnyH_ready (rs := [7]) (by kernel_rfl) (by simp) ?_
          refine AllReadyH.cons rfl (fun K9 hK9 => ?_) AllReadyH.nil
          have hk4 := Blk.freshA w3.drew 76 (Value.int .i64 (k : Int) :: bytesV bs).toArray
          have hof4 : Off (fun _ => False) w3 (w3.drew.alloc (.cells (Value.int .i64 (k : Int) :: bytesV bs).toArray 76)) := ((Off.refl (fun _ => False) w3).drew).alloc _
          have hl4 := own_off HD3.out.log hof4 (fun _ _ h => h)
          have hs4 : (w3.drew.alloc (.cells (Value.int .i64 (k : Int) :: bytesV bs).toArray 76)).heap.size = w3.heap.size + 1 := by show (w3.drew.alloc _).heap.size = _; simp
          have HSZ4 := Lib.hid hs4
          (try simp only [List.getElem_toArray, List.getElem_cons_zero, List.getElem_cons_succ])
          rw [if_pos (by rfl)]
          refine wp_extendN elem_wr (w3.drew.alloc (.cells (Value.int .i64 (k : Int) :: bytesV bs).toArray 76)) _ _ (by rfl) B s.oper.log.length (.slice Al s.oper.log.length cl) (s.oper.log.flatMap wrV) (by rfl) hl4 _ 1 _ (Value.int .i64 (k : Int) :: bytesV bs) (by rfl) (hk4.readsN (n := 1) (by rw [HLN.out]) (by unfold maxLen; omega)) (by rw [HLN.out]) (fun v hv => by
            rcases List.mem_cons.1 hv with rfl | hv
            · rfl
            · exact bytesV_one bs v hv) (by have := HLG.out; unfold maxLen; omega) (by have := HLG.out; omega) (by omega) ?_
          intro A9 c9 w5 hown9 hgrow9 hfr9
          have hof5 : Off (fun i => (Value.slice Al s.oper.log.length cl).ownBlock = some i) w3 w5 := (hof4.mono (fun _ h => h.elim)).grown hgrow9 (fun i hi => .inl hi)
          have hkp := HD3.out.blk.off hof5 HD3.out.lp
          have y2 := hkp.cell 2
          have z2 := hkp.free 2
          simp only [List.getElem?_cons_zero, List.getElem?_cons_succ] at y2
          have hrq5 : w5.rangeAt w1.heap.size 0 (Value.int .i64 (k : Int) :: bytesV bs) := fun j v hv => (hof5.cell (p := ⟨w1.heap.size, 0 + j, none⟩) (by show w1.heap.size < _; omega) (fun e => by have h9 : w1.heap.size < w1.heap.size := HLL.out _ e; omega)).trans (HRQ3.out j v hv)
          have HRQ5 := Lib.hid hrq5
          have HOF5 := Lib.hid hof5
          have HDL := Lib.hid (DAt.logged HD3.out hof5 (s' := s.oper.wrote k bs) (n := s.oper.log.length + 1) (lv' := .slice A9 (s.oper.log.length + 1) c9) (by simp [Dk.wrote]) (by simpa [Dk.wrote, wrV] using hown9) (fun i hi => by
            rcases hfr9.off hi with h1 | h1
            · exact .inl h1
            · exact .inr (by omega)) HOK.out rfl rfl rfl rfl rfl)
          have HFR : Hid (∀ i, (Value.slice A9 (s.oper.log.length + 1) c9).ownBlock = some i → (Value.slice Al s.oper.log.length cl).ownBlock = some i ∨ w3.heap.size ≤ i) := Lib.hid (fun i hi => by
            rcases hfr9.off hi with h1 | h1
            · exact .inl h1
            · exact .inr (by omega))
          clear hown9 hgrow9 hfr9 hof5 hkp hrq5 hk4 hof4 hl4 hs4
          refine hK9.out _ _ (HRQ5.out) (fun hHeld9 => ?_)
          clear hK9 K9
          (try simp only [List.getElem_toArray, List.getElem_cons_zero, List.getElem_cons_succ, Act.put, List.setIfInBounds_toArray, List.set_cons_zero, List.set_cons_succ])
          refine' wpAnyH_take (i := 8) (v := _) rfl (by kernel_rfl) (by kernel_rfl) (by kernel_rfl) (fun _ _ _ h => h) (Or.inl ⟨by rfl, ?taq14⟩) (by assumption) ?tbq14
          case taq14 =>
            intro wS hSw
            (try dsimp only at hSw)
            go_simp
            (try (with_reducible rfl))
          (try simp only [List.getElem_toArray, List.getElem_cons_zero, List.getElem_cons_succ, Act.put, List.setIfInBounds_toArray, List.set_cons_zero, List.set_cons_succ])
          refine' wpAnyH_take (i := 9) (v := _) rfl (by kernel_rfl) (by kernel_rfl) (by kernel_rfl) (fun _ _ _ h => h) (Or.inl ⟨by rfl, ?taq15⟩) (by assumption) ?tbq15
          case taq15 =>
            intro wS hSw
            (try dsimp only at hSw)
            go_simp
            (try (with_reducible rfl))
          (try simp only [List.getElem_toArray, List.getElem_cons_zero, List.getElem_cons_succ, Act.put, List.setIfInBounds_toArray, List.set_cons_zero, List.set_cons_succ])
          refine wpAnyH_ready (rs := [10]) (by kernel_rfl) (by simp) ?_
          refine AllReadyH.cons rfl (fun K9 hK9 => ?_) AllReadyH.nil
          (try simp only [List.getElem_toArray, List.getElem_cons_zero, List.getElem_cons_succ])
          go_simp
          clear y2 z2
          refine hK9.out _ _ (fun j v hv => ((Off.refl (fun i => i = p) w5).setCell (p := ⟨p, 2, none⟩) (.inl rfl) _).cell (p := ⟨w1.heap.size, 0 + j, none⟩) (by have := HOF5.out.size; show w1.heap.size < _; omega) (by show ¬ w1.heap.size = p; omega) |>.trans (HRQ5.out j v hv)) (fun hHeld9 => ?_)
          clear hK9 K9
          (try simp only [List.getElem_toArray, List.getElem_cons_zero, List.getElem_cons_succ, Act.put, List.setIfInBounds_toArray, List.set_cons_zero, List.set_cons_succ])
          refine wpAnyH_done (by kernel_rfl) ?_ _
          go_wp2
          go_ret
          rw [HW.out]
          have hsz5 := HOF5.out.size
          refine ⟨rfl, DAt.did HDL.out (fun i hi => ?_) ?_⟩
          · have hm : Own p (.slice (some ⟨g, 0, none⟩) s.oper.now.length cn) sv (.slice Al s.oper.log.length cl) i → O i ∨ w.heap.size ≤ i := fun h => by
              rcases HOO.out i h with h1 | h1
              · exact .inl h1
              · exact .inr h1.1
            rcases hi with h1 | h1 | h1 | h1
            · exact hm (.inl h1)
            · exact hm (.inr (.inl h1))
            · exact hm (.inr (.inr (.inl h1)))
            · rcases HFR.out i h1 with h2 | h2
              · exact hm (.inr (.inr (.inr h2)))
              · exact .inr (by omega)
          · have hm : ∀ i, Own p (.slice (some ⟨g, 0, none⟩) s.oper.now.length cn) sv (.slice Al s.oper.log.length cl) i → O i ∨ w.heap.size ≤ i := fun i h => by
              rcases HOO.out i h with h1 | h1
              · exact .inl h1
              · exact .inr h1.1
            have e1 := HDID.out.off.trans HOF2.out (fun i hi => .inr (by omega))
            have e2 := e1.trans HOF3.out (fun i hi => hm i (.inr (.inl (by rw [hi]; rfl))))
            have e3 := e2.trans HOF5.out (fun i hi => hm i (.inr (.inr (.inr hi))))
            exact e3.setCell (p := ⟨p, 2, none⟩) (hm p (.inl rfl)) _
        · (try simp only [List.getElem_toArray, List.getElem_cons_zero, List.getElem_cons_succ])
          rw [if_pos (by rfl)]
          refine wp_buildSlice_wr (.tmp 38) (by rfl) (Value.int .i64 (k : Int) :: bytesV bs) (by rfl) HLN.out ?_
          refine hK9.out _ _ ((World.rangeAt_alloc (w := w3.drew) HRQ3.out _)) (fun hHeld9 => ?_)
          clear hK9 K9
          (try simp only [List.getElem_toArray, List.getElem_cons_zero, List.getElem_cons_succ, Act.put, List.setIfInBounds_toArray, List.set_cons_zero, List.set_cons_succ])
          refine wpAnyH_ready (rs := [4]) (by kernel_rfl) (by simp) ?_
          refine AllReadyH.cons rfl (fun K9 hK9 => ?_) AllReadyH.nil
          (try simp only [List.getElem_toArray, List.getElem_cons_zero, List.getElem_cons_succ])
          go_simp
          refine hK9.out _ _ ((World.rangeAt_alloc (w := w3.drew) HRQ3.out _)) (fun hHeld9 => ?_)
          clear hK9 K9
          (try simp only [List.getElem_toArray, List.getElem_cons_zero, List.getElem_cons_succ, Act.put, List.setIfInBounds_toArray, List.set_cons_zero, List.set_cons_succ])
          refine wpAnyH_ready (rs := [7]) (by kernel_rfl) (by simp) ?_
          refine AllReadyH.cons rfl (fun K9 hK9 => ?_) AllReadyH.nil
          have hk4 := Blk.freshA w3.drew 76 (Value.int .i64 (k : Int) :: bytesV bs).toArray
          have hof4 : Off (fun _ => False) w3 (w3.drew.alloc (.cells (Value.int .i64 (k : Int) :: bytesV bs).toArray 76)) := ((Off.refl (fun _ => False) w3).drew).alloc _
          have hl4 := own_off HD3.out.log hof4 (fun _ _ h => h)
          have hs4 : (w3.drew.alloc (.cells (Value.int .i64 (k : Int) :: bytesV bs).toArray 76)).heap.size = w3.heap.size + 1 := by show (w3.drew.alloc _).heap.size = _; simp
          have HSZ4 := Lib.hid hs4
          (try simp only [List.getElem_toArray, List.getElem_cons_zero, List.getElem_cons_succ])
          rw [if_pos (by rfl)]
          refine wp_extendN elem_wr (w3.drew.alloc (.cells (Value.int .i64 (k : Int) :: bytesV bs).toArray 76)) _ _ (by rfl) B s.oper.log.length (.slice Al s.oper.log.length cl) (s.oper.log.flatMap wrV) (by rfl) hl4 _ 1 _ (Value.int .i64 (k : Int) :: bytesV bs) (by rfl) (hk4.readsN (n := 1) (by rw [HLN.out]) (by unfold maxLen; omega)) (by rw [HLN.out]) (fun v hv => by
            rcases List.mem_cons.1 hv with rfl | hv
            · rfl
            · exact bytesV_one bs v hv) (by have := HLG.out; unfold maxLen; omega) (by have := HLG.out; omega) (by omega) ?_
          intro A9 c9 w5 hown9 hgrow9 hfr9
          have hof5 : Off (fun i => (Value.slice Al s.oper.log.length cl).ownBlock = some i) w3 w5 := (hof4.mono (fun _ h => h.elim)).grown hgrow9 (fun i hi => .inl hi)
          have hkp := HD3.out.blk.off hof5 HD3.out.lp
          have y2 := hkp.cell 2
          have z2 := hkp.free 2
          simp only [List.getElem?_cons_zero, List.getElem?_cons_succ] at y2
          have hrq5 : w5.rangeAt w1.heap.size 0 (Value.int .i64 (k : Int) :: bytesV bs) := fun j v hv => (hof5.cell (p := ⟨w1.heap.size, 0 + j, none⟩) (by show w1.heap.size < _; omega) (fun e => by have h9 : w1.heap.size < w1.heap.size := HLL.out _ e; omega)).trans (HRQ3.out j v hv)
          have HRQ5 := Lib.hid hrq5
          have HOF5 := Lib.hid hof5
          have HDL := Lib.hid (DAt.logged HD3.out hof5 (s' := s.oper.wrote k bs) (n := s.oper.log.length + 1) (lv' := .slice A9 (s.oper.log.length + 1) c9) (by simp [Dk.wrote]) (by simpa [Dk.wrote, wrV] using hown9) (fun i hi => by
            rcases hfr9.off hi with h1 | h1
            · exact .inl h1
            · exact .inr (by omega)) HOK.out rfl rfl rfl rfl rfl)
          have HFR : Hid (∀ i, (Value.slice A9 (s.oper.log.length + 1) c9).ownBlock = some i → (Value.slice Al s.oper.log.length cl).ownBlock = some i ∨ w3.heap.size ≤ i) := Lib.hid (fun i hi => by
            rcases hfr9.off hi with h1 | h1
            · exact .inl h1
            · exact .inr (by omega))
          clear hown9 hgrow9 hfr9 hof5 hkp hrq5 hk4 hof4 hl4 hs4
          refine hK9.out _ _ (HRQ5.out) (fun hHeld9 => ?_)
          clear hK9 K9
          (try simp only [List.getElem_toArray, List.getElem_cons_zero, List.getElem_cons_succ, Act.put, List.setIfInBounds_toArray, List.set_cons_zero, List.set_cons_succ])
          refine' wpAnyH_take (i := 8) (v := _) rfl (by kernel_rfl) (by kernel_rfl) (by kernel_rfl) (fun _ _ _ h => h) (Or.inl ⟨by rfl, ?taq16⟩) (by assumption) ?tbq16
          case taq16 =>
            intro wS hSw
            (try dsimp only at hSw)
            go_simp
            (try (with_reducible rfl))
          (try simp only [List.getElem_toArray, List.getElem_cons_zero, List.getElem_cons_succ, Act.put, List.setIfInBounds_toArray, List.set_cons_zero, List.set_cons_succ])
          refine' wpAnyH_take (i := 9) (v := _) rfl (by kernel_rfl) (by kernel_rfl) (by kernel_rfl) (fun _ _ _ h => h) (Or.inl ⟨by rfl, ?taq17⟩) (by assumption) ?tbq17
          case taq17 =>
            intro wS hSw
            (try dsimp only at hSw)
            go_simp
            (try (with_reducible rfl))
          (try simp only [List.getElem_toArray, List.getElem_cons_zero, List.getElem_cons_succ, Act.put, List.setIfInBounds_toArray, List.set_cons_zero, List.set_cons_succ])
          refine wpAnyH_ready (rs := [10]) (by kernel_rfl) (by simp) ?_
          refine AllReadyH.cons rfl (fun K9 hK9 => ?_) AllReadyH.nil
          (try simp only [List.getElem_toArray, List.getElem_cons_zero, List.getElem_cons_succ])
          go_simp
          clear y2 z2
          refine hK9.out _ _ (fun j v hv => ((Off.refl (fun i => i = p) w5).setCell (p := ⟨p, 2, none⟩) (.inl rfl) _).cell (p := ⟨w1.heap.size, 0 + j, none⟩) (by have := HOF5.out.size; show w1.heap.size < _; omega) (by show ¬ w1.heap.size = p; omega) |>.trans (HRQ5.out j v hv)) (fun hHeld9 => ?_)
          clear hK9 K9
          (try simp only [List.getElem_toArray, List.getElem_cons_zero, List.getElem_cons_succ, Act.put, List.setIfInBounds_toArray, List.set_cons_zero, List.set_cons_succ])
          refine wpAnyH_done (by kernel_rfl) ?_ _
          go_wp2
          go_ret
          rw [HW.out]
          have hsz5 := HOF5.out.size
          refine ⟨rfl, DAt.did HDL.out (fun i hi => ?_) ?_⟩
          · have hm : Own p (.slice (some ⟨g, 0, none⟩) s.oper.now.length cn) sv (.slice Al s.oper.log.length cl) i → O i ∨ w.heap.size ≤ i := fun h => by
              rcases HOO.out i h with h1 | h1
              · exact .inl h1
              · exact .inr h1.1
            rcases hi with h1 | h1 | h1 | h1
            · exact hm (.inl h1)
            · exact hm (.inr (.inl h1))
            · exact hm (.inr (.inr (.inl h1)))
            · rcases HFR.out i h1 with h2 | h2
              · exact hm (.inr (.inr (.inr h2)))
              · exact .inr (by omega)
          · have hm : ∀ i, Own p (.slice (some ⟨g, 0, none⟩) s.oper.now.length cn) sv (.slice Al s.oper.log.length cl) i → O i ∨ w.heap.size ≤ i := fun i h => by
              rcases HOO.out i h with h1 | h1
              · exact .inl h1
              · exact .inr h1.1
            have e1 := HDID.out.off.trans HOF2.out (fun i hi => .inr (by omega))
            have e2 := e1.trans HOF3.out (fun i hi => hm i (.inr (.inl (by rw [hi]; rfl))))
            have e3 := e2.trans HOF5.out (fun i hi => hm i (.inr (.inr (.inr hi))))
            exact e3.setCell (p := ⟨p, 2, none⟩) (hm p (.inl rfl)) _
    · have HW : Hid (s.write i bs = (s, 1)) := Lib.hid (by unfold Dk.write; rw [if_neg (fun h => h64 h.2)])
      have t1 : ((bs.length : Int) != 64) = true := by simp; omega
      clear h hb hbs hc1 hc2
      go_enter Try.func18, Try.ntmps18
      go_wp2_with (go_at_call 36; refine HH.out.mono ?_; rintro en w' ⟨rfl, rfl⟩)
      go_ret
      rw [HW.out]
      exact ⟨rfl, Did.refl HD.out⟩
end
end Go.Proofs.Ytjddplddpdcmdaa
