/- Bytes as cells; a slice of bytes as a string. -/
import Derived.Test.YtjddplddpdcmdaaOff
import Derived.Laws.IdiomStrings
import Derived.Laws.BytesString
namespace Go.Proofs.Ytjddplddpdcmdaa
open Go.RowKit
set_option linter.unusedVariables false
set_option linter.unusedSimpArgs false

/-- bytes as cells -/
def bytesV (bs : List UInt8) : List Value := bs.map (fun b => .int .u8 (b.toNat : Int))
theorem length_bytesV (bs : List UInt8) : (bytesV bs).length = bs.length := by simp [bytesV]
theorem bytesV_append (a b : List UInt8) : bytesV a ++ bytesV b = bytesV (a ++ b) := by simp [bytesV]
theorem bytesV_one (bs : List UInt8) : ∀ u ∈ bytesV bs, u.oneCell' = true := by
  intro u hu
  simp only [bytesV, List.mem_map] at hu
  obtain ⟨b, _, rfl⟩ := hu
  rfl
theorem bytesV_at (bs : List UInt8) (i : Nat) (h : i < bs.length) : (bytesV bs)[i]? = some (.int .u8 (bs[i].toNat : Int)) := by simp [bytesV, h]
theorem bytesV_take (bs : List UInt8) (n : Nat) : (bytesV bs).take n = bytesV (bs.take n) := by simp [bytesV, List.map_take]
theorem bytesV_drop (bs : List UInt8) (n : Nat) : (bytesV bs).drop n = bytesV (bs.drop n) := by simp [bytesV, List.map_drop]
/-- bytes as a string -/
def strOf (bs : List UInt8) : Value := .string ⟨bs.toArray⟩
theorem run_string {P : Program} (src dst e : TypeId) (hs : P.underlying src = some (.slice e)) (he : P.underlying e = some (.int .u8)) (hd : P.underlying dst = some .string)
    {w : World} {B : Nat} {v : Value} {bs : List UInt8} (h : Reads w B v (bytesV bs)) : (convert src dst v).run P w = .ok (strOf bs) w := by
  obtain ⟨A, n, c, rfl, hl, hc, hm, hat⟩ := h
  rw [length_bytesV] at hl
  subst hl
  by_cases h0 : bs.length = 0
  · have : bs = [] := List.eq_nil_of_length_eq_zero h0
    subst this
    rw [run_convert_bytes_string w src dst e A _ c hs he hd]
    cases A <;> simp [Conv.bytesToString, loadCells, loadCellsFrom, strOf] <;> rfl
  · obtain ⟨g, o, rfl, hg, hx⟩ := hat.out (by omega)
    exact run_convert_bytes_back w src dst e ⟨g, o, none⟩ c bs hs he hd (fun j hj => by
      rw [addr_add]
      exact hx j _ (bytesV_at bs j hj))
theorem strOf_inj {a b : List UInt8} : (⟨a.toArray⟩ : ByteArray) = ⟨b.toArray⟩ ↔ a = b := by
  constructor
  · intro h
    injection h with h
    injection h
  · rintro rfl; rfl
end Go.Proofs.Ytjddplddpdcmdaa
