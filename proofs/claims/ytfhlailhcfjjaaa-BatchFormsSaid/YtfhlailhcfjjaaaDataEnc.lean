/- Contract of dataset.Encode. -/
import Derived.Test.YtfhlailhcfjjaaaDataEncP
import Derived.Lib.SlBytesConst
namespace Go.Proofs.Ytfhlailhcfjjaaa
open Go.RowKit
set_option linter.unusedVariables false
set_option linter.unusedSimpArgs false

theorem reads_const (w : World) (bs : List UInt8) (e : TypeId) (k : Nat × Nat) (C : Array Value) (n : Nat) (hn : n = bs.length) (hC : C.toList = bytesV bs) (hm : bs.length ≤ maxLen) :
    Reads (w.alloc (.cells C e k)) (w.heap.size + 1) (.slice (some ⟨w.heap.size, 0, none⟩) n n) (bytesV bs) := by
  subst hn
  refine ⟨some ⟨w.heap.size, 0, none⟩, _, _, rfl, length_bytesV bs, Nat.le_refl _, hm, fun _ => ⟨w.heap.size, 0, rfl, by omega, fun j u hu => ?_⟩⟩
  rw [← hC] at hu
  rw [Nat.zero_add]
  have : (w.alloc (.cells C e k)).heap[w.heap.size]? = some (.cells C e k) := by
    show (w.heap.push (.cells C e k))[w.heap.size]? = _
    simp
  unfold World.cell?
  simp only [this]
  rw [← hu]
  simp
theorem run_index5 (cs : Array Value) (j : Nat) (n : Int) (hc : cs[j]? = some (.int .i64 n)) (hj : j < 5) (w : World) : (Instr.index 75 (.agg cs) (.int .i64 j)).run Try.prog w = .ok (.int .i64 n) w := by
  have hu := Try.underlying75
  have u3 := Try.underlying3
  have ag3 := Try.isAgg3
  have z3 := Try.sizeOf3
  have h1 : (0 : Int) ≤ (j : Int) ∧ (j : Int) < ((5 : Nat) : Int) := by omega
  have h2 : j * 1 = j := by omega
  unfold Instr.index
  simp only [asIntOf, Sem.run_bind, Sem.run_pure, run_underlying hu, Result.andThen_ok, h1, z3, part, ag3, Int.toNat_natCast, h2, hc]
  go_simp
theorem wrap_wrap64 (y : Int) : IntKind.u64.wrap (wrap64 y) = IntKind.u64.wrap y := by
  rw [IntKind.wrap_u64, IntKind.wrap_u64]
  unfold wrap64
  omega
/-- what Encode tells -/
def EncOf (w : World) (d : DatV) (en : Ending) (w' : World) : Prop :=
  Below w.heap.size w w' ∧ ((mayD d = false ∧ en = .returned (.tuple #[.slice none 0 0, .int .i64 1])) ∨
    (mayD d = true ∧ ∃ A c, en = .returned (.tuple #[.slice A (encD d).length c, .int .i64 0]) ∧ w'.ownsRow w.heap.size 5 1 (.slice A (encD d).length c) (encD d).length (bytesV (encD d))))
set_option maxRecDepth 100000 in
set_option maxHeartbeats 3200000 in
theorem denc_any (v : Value) (d : DatV) (w : World) (B : Nat) (hB : B ≤ w.heap.size) (h : DataOf w B v d) : Calls Try.prog 22 #[v] w (EncOf w d) := by
  obtain ⟨a, b, c, ex, cl, lv, xs⟩ := d
  have h0 := h
  obtain ⟨rfl, _, hx⟩ := h
  simp only at hx
  obtain ⟨A, k, rfl⟩ := hx.form
  have hlen := hx.len
  have HX := Lib.hid hx
  have hb0 := one_alloc w (.cells #[.int .i64 a, .int .i64 b, .int .i64 c, .int .i64 ex, .int .i64 cl, .slice A xs.length k] 33)
  have hk0 := Blk.fresh w 33 [.int .i64 a, .int .i64 b, .int .i64 c, .int .i64 ex, .int .i64 cl, .slice A xs.length k]
  obtain ⟨r, hr⟩ : ∃ r, mayD ⟨a, b, c, ex, cl, .slice A xs.length k, xs⟩ = r := ⟨_, rfl⟩
  have HM := Lib.hid (dmay_any _ _ (w.alloc (.cells #[.int .i64 a, .int .i64 b, .int .i64 c, .int .i64 ex, .int .i64 cl, .slice A xs.length k] 33)) B (by have := hb0.size; omega) (h0.below (hb0.mono hB)) r hr)
  have HB := Lib.hid hb0
  have HK := Lib.hid hk0
  have m0 := hk0.cell 0
  have m1 := hk0.cell 1
  have m2 := hk0.cell 2
  have m3 := hk0.cell 3
  have m4 := hk0.cell 4
  have m5 := hk0.cell 5
  have hs := hb0.size
  have hl := hk0.lt
  simp only [List.getElem?_cons_zero, List.getElem?_cons_succ] at m0 m1 m2 m3 m4 m5
  have HR := Lib.hid hr
  clear hb0 hk0 hx h0 hr
  go_enter Try.func22, Try.ntmps22
  go_wp2_with fail
  generalize (w.alloc (.cells #[.int .i64 a, .int .i64 b, .int .i64 c, .int .i64 ex, .int .i64 cl, .slice A xs.length k] 33)) = w1 at HB HK HM m0 m1 m2 m3 m4 m5 hs hl ⊢
  refine HM.out.mono ?_
  rintro en w2 ⟨rfl, hb⟩
  have HB2 := Lib.hid (HB.out.trans (hb.mono (by omega)))
  have HK2 := Lib.hid (HK.out.below hb hl)
  clear hb m0 m1 m2 m3 m4 m5
  cases r with
  | false =>
    go_wp2
    refine bodyPost_ret (v := .tuple #[.slice none 0 0, .int .i64 1]) (by simp [results, Try.results22, go_sem]) rfl ?_
    exact ⟨HB2.out, .inl ⟨HR.out, rfl⟩⟩
  | true =>
    have hsz := HB2.out.size
    have HS : Hid (ES w (w2.alloc (.cells #[.slice none 0 0] 73)) w.heap.size 33 [.int .i64 a, .int .i64 b, .int .i64 c, .int .i64 ex, .int .i64 cl, .slice A xs.length k] w2.heap.size (.slice none 0 0) []) := Lib.hid
      ⟨HB2.out.alloc hsz _, ⟨Blk.fresh w2 73 [.slice none 0 0], World.ownsRow_nil _ _ _ _, by simp [Value.ownBlock]⟩, HK2.out.alloc _, by have := HK2.out.lt; omega, by simp [Value.ownBlock], hsz⟩
    have HL := Lib.hid (mayD_lens HR.out)
    have kc := Lib.run_convert_bytes_const (P := Try.prog) (w2.alloc (.cells #[.slice none 0 0] 73)) 34 5 #[.int .u8 112, .int .u8 100, .int .u8 100, .int .u8 115] 4 4 Try.underlying34 Try.underlying5
    have HRC := Lib.hid (reads_const (w2.alloc (.cells #[.slice none 0 0] 73)) [112, 100, 100, 115] 5 (4, 5) #[.int .u8 112, .int .u8 100, .int .u8 100, .int .u8 115] 4 rfl rfl (by decide))
    have hz2 : (w2.alloc (.cells #[.slice none 0 0] 73)).heap.size = w2.heap.size + 1 := by simp
    rw [hz2] at kc HRC
    simp only [List.size_toArray, List.length_cons, List.length_nil, Nat.zero_add, Nat.reduceAdd] at kc
    have HS1 := Lib.hid (HS.out.alloc (.cells #[.int .u8 112, .int .u8 100, .int .u8 100, .int .u8 115] 5 (4, 5)))
    clear hz2
    go_wp2_with fail
    refine (raw_any _ w.heap.size w2.heap.size (.slice none 0 0) [] HS1.out.wr HS1.out.bel.size (w2.heap.size + 2) (.slice (some ⟨w2.heap.size + 1, 0, none⟩) 4 4) [112, 100, 100, 115] HRC.out (by decide)).mono ?_
    rintro en w3 ⟨rfl, v3, hw3, hf3, ho3⟩
    have HS3 := Lib.hid (HS1.out.put hw3 hf3 ho3)
    have hk3 := HS3.out.blk
    have m0 := hk3.cell 0
    have m1 := hk3.cell 1
    have m2 := hk3.cell 2
    have m3 := hk3.cell 3
    have m4 := hk3.cell 4
    have m5 := hk3.cell 5
    simp only [List.getElem?_cons_zero, List.getElem?_cons_succ] at m0 m1 m2 m3 m4 m5
    clear hw3 hf3 ho3 HS1 HS HRC kc hk3
    go_wp2_with fail
    clear m0 m1 m2 m3 m4 m5
    go_loopw [34] (fun i wr => ∃ (j : Nat) (u : Value), j ≤ 5 ∧ i = .int .i64 j ∧ Hid (ES w wr w.heap.size 33 [.int .i64 a, .int .i64 b, .int .i64 c, .int .i64 ex, .int .i64 cl, .slice A xs.length k] w2.heap.size u ([112, 100, 100, 115] ++ ([a, b, c, ex, cl].take j).flatMap enc1))) (fun i _ => 5 - (intOf i).toNat)
    case atStart => exact ⟨0, v3, by omega, rfl, HS3⟩
    case round =>
      obtain ⟨j, u, hj, rfl, hes⟩ := hrel
      clear HS3
      by_cases hlt : j < 5
      · have hq : ∃ n, [a, b, c, ex, cl][j]? = some n ∧ [112, 100, 100, 115] ++ ([a, b, c, ex, cl].take (j + 1)).flatMap enc1 = ([112, 100, 100, 115] ++ ([a, b, c, ex, cl].take j).flatMap enc1) ++ beB (IntKind.u64.wrap n).toNat 1 := by
          refine ⟨[a, b, c, ex, cl][j], List.getElem?_eq_getElem hlt, ?_⟩
          rw [flat_take enc1 (List.getElem?_eq_getElem hlt), List.append_assoc]
          rfl
        obtain ⟨n, hn, hnx⟩ := hq
        have hln : ([112, 100, 100, 115] ++ ([a, b, c, ex, cl].take j).flatMap enc1).length + 8 ≤ 140737488355328 := by
          rw [List.length_append, length_flat1, List.length_take]
          simp only [List.length_cons, List.length_nil]
          omega
        have hc : (#[.int .i64 a, .int .i64 b, .int .i64 c, .int .i64 ex, .int .i64 cl] : Array Value)[j]? = some (.int .i64 n) := by
          have : j = 0 ∨ j = 1 ∨ j = 2 ∨ j = 3 ∨ j = 4 := by omega
          rcases this with rfl | rfl | rfl | rfl | rfl <;> (injection hn with hn; subst hn; rfl)
        have HN := Lib.hid hnx
        have kx := run_index5 _ j n hc hlt
        clear hnx hn hc
        generalize [112, 100, 100, 115] ++ ([a, b, c, ex, cl].take j).flatMap enc1 = bs at hes HN hln
        have i1 : (0 : Int) ≤ (j : Int) := by omega
        have i2 : (j : Int) < 5 := by omega
        go_wp2_with fail
        refine (u8_any _ w.heap.size w2.heap.size u bs hes.out.wr hes.out.bel.size n _ (wrapNat n) hln).mono ?_
        rintro en w4 ⟨rfl, v4, hw4, hf4, ho4⟩
        have HS4 := Lib.hid (hes.out.put hw4 hf4 ho4)
        clear hw4 hf4 ho4 hes
        go_wp2
        go_roundw
        case rel => exact ⟨j + 1, v4, by omega, by go_num, by rw [HN.out]; exact HS4⟩
        case measure => simp [intOf]; omega
      · obtain rfl : j = 5 := by omega
        have hk3 := hes.out.blk
        have m5 := hk3.cell 5
        simp only [List.getElem?_cons_zero, List.getElem?_cons_succ] at m5
        clear hk3
        go_wp2_with fail
        have HH : Hid (([112, 100, 100, 115] ++ ([a, b, c, ex, cl].take 5).flatMap enc1) ++ beB (IntKind.u64.wrap xs.length).toNat 2 = encHead ⟨a, b, c, ex, cl, .slice A xs.length k, xs⟩) := Lib.hid rfl
        refine (u16_any _ w.heap.size w2.heap.size u _ hes.out.wr hes.out.bel.size xs.length _ (wrapNat _) (by rw [List.length_append, length_flat1, List.length_take]; simp)).mono ?_
        rintro en w4 ⟨rfl, v4, hw4, hf4, ho4⟩
        have HS4 := Lib.hid (hes.out.put hw4 hf4 ho4)
        rw [HH.out] at HS4
        have hk4 := HS4.out.blk
        have m5 := hk4.cell 5
        simp only [List.getElem?_cons_zero, List.getElem?_cons_succ] at m5
        clear hw4 hf4 ho4 hes hk4 HH
        go_wp2_with fail
        clear m5
        go_loopw [49] (fun i wr => ∃ (j : Nat) (u : Value), j ≤ xs.length ∧ i = .int .i64 j ∧ Hid (ES w wr w.heap.size 33 [.int .i64 a, .int .i64 b, .int .i64 c, .int .i64 ex, .int .i64 cl, .slice A xs.length k] w2.heap.size u (encHead ⟨a, b, c, ex, cl, .slice A xs.length k, xs⟩ ++ (xs.take j).flatMap encEx))) (fun i _ => xs.length - (intOf i).toNat)
        case atStart => exact ⟨0, v4, by omega, rfl, by simpa using HS4⟩
        case round =>
          obtain ⟨j, u2, hj, rfl, hes⟩ := hrel
          clear HS4
          by_cases hlt : j < xs.length
          · obtain ⟨g, o, c', e, e1, hlk, hok, hg, q0, q1⟩ := (HX.out.below (hes.out.bel.mono hB)).at_ hlt
            injection e1 with e1 _ e3
            subst e1 e3
            obtain ⟨Ad, cd, hdv, _, _⟩ := hok.rd.form
            obtain ⟨dv, data, lab⟩ := e
            simp only at hdv q0 q1
            subst hdv
            rw [length_ints] at q0
            rw [length_ints] at hlk hok
            have hdl := HL.out.2 _ (List.mem_of_getElem? hlk)
            have hln : (encHead ⟨a, b, c, ex, cl, .slice (some ⟨g, o, none⟩) xs.length k, xs⟩ ++ (xs.take j).flatMap encEx).length + 4096 ≤ 140737488355328 := by
              have h1 := length_exs (xs := xs.take j) (m := 2048) (fun e he => HL.out.2 e (List.mem_of_mem_take he))
              have h2 := HL.out.1
              rw [List.length_append, length_encHead]
              rw [List.length_take] at h1
              have : min j xs.length * (1 + 2048) ≤ 64 * (1 + 2048) := Nat.mul_le_mul_right _ (by omega)
              omega
            simp only at hdl
            have HNX := Lib.hid (flat_take encEx hlk)
            have HOK : Hid (Reads w B (.slice Ad data.length cd) (ints .i8 data)) := Lib.hid (by
              have := (HX.out.ok.out _ (List.mem_of_getElem? hlk)).rd
              simpa only using this)
            have hsz := hes.out.bel.size
            have a1 : g < wr.heap.size := by omega
            have i1 : (0 : Int) ≤ (j : Int) := by omega
            have i2 : (j : Int) < (xs.length : Int) := by omega
            have HS5 := Lib.hid (hes.out.alloc (.cells #[.slice Ad data.length cd, .int .i64 lab] 45))
            have hkx := Blk.fresh wr 45 [.slice Ad data.length cd, .int .i64 lab]
            generalize hbs : encHead ⟨a, b, c, ex, cl, .slice (some ⟨g, o, none⟩) xs.length k, xs⟩ ++ (xs.take j).flatMap encEx = bs at hes hln HS5
            have HBS := Lib.hid hbs
            have r0 := hkx.cell 0
            have r1 := hkx.cell 1
            simp only [List.getElem?_cons_zero, List.getElem?_cons_succ] at r0 r1
            have HKX := Lib.hid hkx
            clear hlk hok hkx hbs
            go_wp2_with fail
            refine (u8_any _ w.heap.size w2.heap.size u2 bs HS5.out.wr HS5.out.bel.size lab _ (wrapNat lab) (by omega)).mono ?_
            rintro en w6 ⟨rfl, v6, hw6, hf6, ho6⟩
            have HS6 := Lib.hid (HS5.out.put hw6 hf6 ho6)
            have hk6 := HKX.out.off ho6 (by
              rintro (e | e)
              · have := hes.out.wr.blk.lt; omega
              · have := (hes.out.wr.own.lt _ e).2; omega)
            have r0 := hk6.cell 0
            simp only [List.getElem?_cons_zero] at r0
            have hs6 := hk6.lt
            clear hw6 hf6 ho6 hk6 HS5 HKX r1 hes
            go_wp2_with fail
            clear r0 hs6
            go_loopw [60] (fun i wr => ∃ (m : Nat) (u : Value), m ≤ data.length ∧ i = .int .i64 m ∧ Hid (ES w wr w.heap.size 33 [.int .i64 a, .int .i64 b, .int .i64 c, .int .i64 ex, .int .i64 cl, .slice (some ⟨g, o, none⟩) xs.length k] w2.heap.size u (bs ++ beB (IntKind.u64.wrap lab).toNat 1 ++ (data.take m).flatMap enc1))) (fun i _ => data.length - (intOf i).toNat)
            case atStart => exact ⟨0, v6, by omega, rfl, by simpa using HS6⟩
            case round =>
              obtain ⟨m, u7, hm, rfl, hes7⟩ := hrel
              clear HS6
              by_cases hlt7 : m < data.length
              · obtain ⟨A7, n7, c7, e7, l7, f7, m7, at7⟩ := HOK.out.below (hes7.out.bel.mono hB)
                injection e7 with e7 e8 e9
                subst e7 e8 e9
                obtain ⟨g7, o7, hA7, hg7, hx7⟩ := at7.out (by omega)
                subst hA7
                have k7 := hx7 m (.int .i8 data[m]) (by simp [ints, hlt7])
                have hsz7 := hes7.out.bel.size
                have a7 : g7 < _ := Nat.lt_of_lt_of_le (Nat.lt_of_lt_of_le hg7 hB) hsz7
                have HN7 := Lib.hid (flat_take enc1 (List.getElem?_eq_getElem hlt7))
                have i7 : (0 : Int) ≤ (m : Int) := by omega
                have j7 : (m : Int) < (data.length : Int) := by omega
                have ln7 : (bs ++ beB (IntKind.u64.wrap lab).toNat 1 ++ (data.take m).flatMap enc1).length + 8 ≤ 140737488355328 := by
                  rw [List.length_append, List.length_append, length_flat1, length_beB, List.length_take]
                  omega
                generalize data[m] = y at k7 HN7
                clear at7 hx7 l7 f7 m7
                go_wp2_with fail
                refine (u8_any _ w.heap.size w2.heap.size u7 _ hes7.out.wr hes7.out.bel.size (wrap64 y) _ ((wrap_wrap64 y).trans (wrapNat y)) ln7).mono ?_
                rintro en w8 ⟨rfl, v8, hw8, hf8, ho8⟩
                have HS8 := Lib.hid (hes7.out.put hw8 hf8 ho8)
                clear hw8 hf8 ho8 hes7 ln7
                go_wp2
                go_roundw
                case rel => exact ⟨m + 1, v8, by omega, by go_num, by
                  rw [HN7.out, ← List.append_assoc]
                  exact HS8⟩
                case measure => simp [intOf]; omega
              · obtain rfl : m = data.length := by omega
                rw [List.take_length] at hes7
                go_wp2
                go_roundw
                case rel => exact ⟨j + 1, u7, by omega, by go_num, by
                  rw [HNX.out, ← List.append_assoc, HBS.out]
                  rw [List.append_assoc] at hes7
                  exact hes7⟩
                case measure => simp [intOf]; omega
          · obtain rfl : j = xs.length := by omega
            rw [List.take_length] at hes
            go_wp2_with fail
            have HE := Lib.hid (show (encHead ⟨a, b, c, ex, cl, .slice A xs.length k, xs⟩ ++ xs.flatMap encEx) = encD ⟨a, b, c, ex, cl, .slice A xs.length k, xs⟩ from rfl)
            have ln : (encD ⟨a, b, c, ex, cl, .slice A xs.length k, xs⟩).length ≤ 140737488355328 := by
              have h1 := length_exs (xs := xs) (m := 2048) (fun e he => HL.out.2 e he)
              have h2 := HL.out.1
              rw [← HE.out, List.length_append, length_encHead]
              have : xs.length * (1 + 2048) ≤ 64 * (1 + 2048) := Nat.mul_le_mul_right _ (by omega)
              omega
            rw [HE.out] at hes
            refine (bytes_any _ w.heap.size w2.heap.size u2 _ hes.out.wr ln).mono ?_
            rintro en w8 ⟨A8, c8, rfl, hown8, hb8⟩
            have HO := Lib.hid (own_lower hown8 hes.out.bel.size)
            have HB8 := Lib.hid (hes.out.bel.trans (hb8.mono hes.out.bel.size))
            clear hown8 hb8 hes ln HE
            go_wp2
            refine bodyPost_ret (v := .tuple #[.slice A8 (encD ⟨a, b, c, ex, cl, .slice A xs.length k, xs⟩).length c8, .int .i64 0]) (by simp [results, Try.results22, go_sem]) rfl ?_
            exact ⟨HB8.out, .inr ⟨HR.out, A8, c8, rfl, HO.out⟩⟩
end Go.Proofs.Ytfhlailhcfjjaaa
