/- append(s, make([]T, k)...): zeros behind an owned row. -/
import Derived.Test.YtjddplddpdcmdaaMany
import Derived.Lib.AppendZerosOnto
namespace Go.Proofs.Ytjddplddpdcmdaa
open Go.RowKit
set_option linter.unusedVariables false
set_option linter.unusedSimpArgs false

theorem zeroCells_one (z : Value) (k : Nat) : Builtin.zeroCells #[z] k = (List.replicate k z).toArray := by
  apply Array.toList_inj.1
  apply List.ext_getElem
  · simp [Builtin.zeroCells]
  · intro i h1 h2
    simp [Builtin.zeroCells, Nat.mod_one]
theorem Off.grownBy {w w' : World} {v : Value} (h : Off (fun i => v.ownBlock = some i) w w') : w.grownBy w' v.ownBlock :=
  ⟨h.os, h.tape, h.output, h.size, fun k hk hne => h.block k hk (fun e => hne e.symm)⟩
theorem run_zeros {P : Program} {T E : TypeId} {z : Value} {bytes : Nat} (he : ElemOf P T E z bytes) {tn : TypeId} {kn : IntKind} (htn : P.underlying tn = some (.int kn)) (hz1 : z.oneCell' = true) (w : World) (ty : TypeId) (base n : Nat) (v : Value) (xs : List Value) (hown : w.ownsRow base E 1 v n xs)
    (kq : IntKind) (k : Nat) (h63 : n + k ≤ maxLen) (hbytes : (n + k) * bytes ≤ 140737488355328) (hbase : base ≤ w.heap.size) :
    ∃ v' w', (Builtin.append_ #[T, tn] ty #[v, .int kq k]).run P w = .ok v' w' ∧ w'.ownsRow base E 1 v' (n + k) (xs ++ List.replicate k z) ∧ w.grownBy w' v.ownBlock ∧ Fresh w v v' := by
  obtain ⟨i, hi, hz, hs, hb⟩ := info_parts he.info
  have hsmall : n + k ≤ 9223372036854775807 := by simpa [maxLen] using h63
  have hw : IntKind.i64.wrap (k : Int) = k := by rw [IntKind.wrap_i64]; omega
  have hneg : ¬ ((k : Int) < 0) := by omega
  have hkb : k * i.bytes ≤ 281474976710656 := by
    have : k * bytes ≤ (n + k) * bytes := Nat.mul_le_mul_right _ (by omega)
    rw [hb]; omega
  have h48i : ¬ (281474976710656 < (k : Int) * (i.bytes : Int)) := by
    rw [← Int.natCast_mul]
    omega
  rcases Nat.eq_zero_or_pos k with h0 | h0
  · subst h0
    have hw0 : IntKind.i64.wrap 0 = 0 := by rw [IntKind.wrap_i64]; rfl
    refine ⟨v, w, ?_, by simpa using hown, World.grownBy.refl _ _, .inl rfl⟩
    rcases hown.2 with ⟨rfl, rfl⟩ | ⟨g, cap, cur, rfl, hbg, hg, hnc, hcm, hcs, htake⟩
    · simp [Builtin.append_, run_underlying he.und, run_underlying htn, sizeOf, typeInfo, hi, asInt, asIntOf, hw0]
    · simp [Builtin.append_, run_underlying he.und, run_underlying htn, sizeOf, typeInfo, hi, asInt, asIntOf, hw0, hnc, storeCells]
  · have hk0 : ¬ k = 0 := by omega
    -- a new row
    have grown : ∀ (old : Nat), old < n + k → xs.length = n → ∀ (row : Option Nat),
        (w.drew.alloc (.cells (xs.toArray ++ Builtin.zeroCells z.cells k ++ Builtin.zeroCells z.cells (grownCap w (n + k) old E - (n + k))) E)).ownsRow base E 1
          (.slice (some ⟨w.heap.size, 0, none⟩) (n + k) (grownCap w (n + k) old E)) (n + k) (xs ++ List.replicate k z) ∧
        w.grownBy (w.drew.alloc (.cells (xs.toArray ++ Builtin.zeroCells z.cells k ++ Builtin.zeroCells z.cells (grownCap w (n + k) old E - (n + k))) E)) row := by
      intro old ho hxn row
      have hge := grownCap_ge w (n + k) old E
      have hcm : grownCap w (n + k) old E ≤ maxLen := grownCap_le_maxLen w (n + k) old E h63
      rw [he.one, zeroCells_one, zeroCells_one]
      have hbk := Blk.freshA w.drew E (xs.toArray ++ (List.replicate k z).toArray ++ (List.replicate (grownCap w (n + k) old E - (n + k)) z).toArray)
      rw [show (xs.toArray ++ (List.replicate k z).toArray ++ (List.replicate (grownCap w (n + k) old E - (n + k)) z).toArray).toList = (xs ++ List.replicate k z) ++ List.replicate (grownCap w (n + k) old E - (n + k)) z by simp] at hbk
      refine ⟨hbk.ownFit hbase hge hcm (by simp [hxn]) (by simp), ⟨rfl, rfl, rfl, by simp, fun j hj _ => heap_alloc_old w.drew _ hj⟩⟩
    rcases hown.2 with ⟨rfl, rfl⟩ | ⟨g, cap, cur, rfl, hbg, hg, hnc, hcm, hcs, htake⟩
    · have hx : xs = [] := List.eq_nil_of_length_eq_zero (by simpa using hown.1)
      subst hx
      have hr := Lib.run_append_nil_zeros (P := P) w T tn ty E i z kq kn he.und htn hi hz k h0 (by omega) (by omega) hkb
      have hgr := grown 0 (by omega) rfl (Value.ownBlock (.slice none 0 0))
      simp only [Nat.zero_add, List.nil_append, Array.empty_append] at hgr ⊢
      exact ⟨_, _, hr, hgr.1, hgr.2, .inr ⟨_, rfl, Nat.le_refl _⟩⟩
    · have hxl : xs.length = n := by have := hown.1; omega
      have hbk : Blk w g E cur.toList := by unfold Blk; simpa using hg
      have hcl : cur.toList.length = cap := by simp; omega
      by_cases hroom : n + k ≤ cap
      · have hst := run_storeCells_cells (P := P) g n (List.replicate k z) 0 w (fun j hj => by
            have := (hbk.there n k (by omega)) j (by simpa using hj)
            simpa using this.1) (fun j hj => by
            have := (hbk.there n k (by omega)) j (by simpa using hj)
            simpa using this.2) (fun u hu => by rw [(List.mem_replicate.1 hu).2]; exact hz1)
        simp only [Nat.add_zero] at hst
        have hb2 := Blk.setCells (List.replicate k z) n hbk (by simp; omega)
        have hpre : cur.toList.take n = xs := by rw [← htake, Nat.mul_one]
        rw [hpre, List.append_assoc, ← List.append_assoc] at hb2
        refine ⟨.slice (some ⟨g, 0, none⟩) (n + k) cap, w.setCells g n (List.replicate k z), ?_, hb2.ownFit hbg hroom hcm (by simp [hxl]) (by simp; omega), Off.grownBy ((Off.refl (fun i => (Value.slice (some ⟨g, 0, none⟩) n cap).ownBlock = some i) w).setCells _ n (.inl rfl)), .inl rfl⟩
        have hadd : (⟨g, 0, none⟩ : Addr).add (n * 1) = ⟨g, n, none⟩ := by rw [addr_add]; simp
        rw [Nat.mul_one] at hadd
        simp [Builtin.append_, run_underlying he.und, run_underlying htn, sizeOf, typeInfo, zeroValue, hi, hz, hs, asInt, asIntOf, hw, hneg, h48i, hroom, hk0, he.one, zeroCells_one, hadd, hst]
      · have hold : (Builtin.firstCells i.size n (.slice (some ⟨g, 0, none⟩) n cap)).run P w.drew = .ok xs.toArray w.drew := by
          have hc : ∀ j u, xs[j]? = some u → w.drew.cell? ((⟨g, 0, none⟩ : Addr).add j) = some u := fun j u hu => by
            rw [addr_add, Nat.zero_add]
            have h9 := hbk.drew.cell j
            rw [h9, ← hu, ← htake, Nat.mul_one, List.getElem?_take, if_pos (by have := (List.getElem?_eq_some_iff.1 hu).1; omega)]
          have := run_loadCells_list (P := P) w.drew ⟨g, 0, none⟩ xs hc
          simp only [Builtin.firstCells]
          rw [hs, Nat.mul_one, ← hxl]
          exact this
        have hr := Lib.run_append_grow_zeros (P := P) w T tn ty E i z kq kn he.und htn hi hz (some ⟨g, 0, none⟩) n cap xs hold k h0 (by omega) (by omega) (by omega) hkb (by rw [hb]; exact growslice_fits (by omega) hbytes)
        have hgr := grown cap (by omega) hxl (Value.ownBlock (.slice (some ⟨g, 0, none⟩) n cap))
        exact ⟨_, _, hr, hgr.1, hgr.2, .inr ⟨_, rfl, Nat.le_refl _⟩⟩
theorem wp_zeros {P : Program} {T E : TypeId} {z : Value} {bytes : Nat} (he : ElemOf P T E z bytes) {tn : TypeId} {kn : IntKind} (htn : P.underlying tn = some (.int kn)) (hz1 : z.oneCell' = true) (w : World) {o : Oper} {a : Act} {K : Act → World → Prop} {Q : Exit → Act → World → Prop} (s x : Operand)
    (ho : o.op = .call { callee := .builtin .append, args := #[s, x], argTypes := #[T, tn] })
    (base n : Nat) (v : Value) (xs : List Value) (hs : a.eval s = v) (hown : w.ownsRow base E 1 v n xs) (kq : IntKind) (k : Nat) (hx : a.eval x = .int kq k)
    (h63 : n + k ≤ maxLen) (hbytes : (n + k) * bytes ≤ 140737488355328) (hbase : base ≤ w.heap.size)
    (h : ∀ A c w', w'.ownsRow base E 1 (.slice A (n + k) c) (n + k) (xs ++ List.replicate k z) → w.grownBy w' v.ownBlock → Fresh w v (.slice A (n + k) c) → K (a.put o.dst (.slice A (n + k) c)) w') : o.wp P a w K Q := by
  obtain ⟨v', w', hrun, h2, h3, h4⟩ := run_zeros he htn hz1 w o.type base n v xs hown kq k h63 hbytes hbase
  unfold Oper.wp execOp
  simp only [ho, resolve, invoke, builtin, Sem.run_bind, Sem.run_pure, Result.andThen_ok, List.map_toArray, List.map_cons, List.map_nil, hs, hx, hrun]
  obtain ⟨A, c, rfl⟩ := own_form h2
  exact h A c w' h2 h3 h4
theorem wpList_zeros {P : Program} {T E : TypeId} {z : Value} {bytes : Nat} (he : ElemOf P T E z bytes) {tn : TypeId} {kn : IntKind} (htn : P.underlying tn = some (.int kn)) (hz1 : z.oneCell' = true) (w : World) {ops : Array Oper} {rest : List Oper} {o : Oper} {a : Act} {Q : Exit → Act → World → Prop} (hgd : o.guard = none) (s x : Operand)
    (ho : o.op = .call { callee := .builtin .append, args := #[s, x], argTypes := #[T, tn] })
    (base n : Nat) (v : Value) (xs : List Value) (hs : a.eval s = v) (hown : w.ownsRow base E 1 v n xs) (kq : IntKind) (k : Nat) (hx : a.eval x = .int kq k)
    (h63 : n + k ≤ maxLen) (hbytes : (n + k) * bytes ≤ 140737488355328) (hbase : base ≤ w.heap.size)
    (h : ∀ A c w', w'.ownsRow base E 1 (.slice A (n + k) c) (n + k) (xs ++ List.replicate k z) → w.grownBy w' v.ownBlock → Fresh w v (.slice A (n + k) c) → wpList P ops Q rest (a.put o.dst (.slice A (n + k) c)) w') : wpList P ops Q (o :: rest) a w :=
  wpList_plain hgd fun K hK => wp_zeros he htn hz1 w s x ho base n v xs hs hown kq k hx h63 hbytes hbase fun A c w' h2 h3 h4 => hK _ _ (h A c w' h2 h3 h4)
end Go.Proofs.Ytjddplddpdcmdaa
