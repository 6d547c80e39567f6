/-
  Strings as lists of bytes: an element, a part, joined, compared. Conditions: none; plain lemmas over any program.
-/
import Derived.Test.YtohdljcpaogokaaSlf
namespace Go.SL
theorem bytes_join (a b : List UInt8) : (⟨a.toArray⟩ : ByteArray) ++ ⟨b.toArray⟩ = ⟨(a ++ b).toArray⟩ := by
  apply ByteArray.ext
  simp [ByteArray.data_append]
theorem bytes_size (a : List UInt8) : (⟨a.toArray⟩ : ByteArray).size = a.length := by simp [ByteArray.size]
theorem wrap_id {n : Int} (h : 0 ≤ n ∧ n < 9223372036854775808) : IntKind.i64.wrap n = n := by
  simp only [IntKind.wrap, IntKind.bits, IntKind.signed]
  simp
  omega
theorem wrapU_id {n : Int} (h : 0 ≤ n ∧ n < 18446744073709551616) : IntKind.u64.wrap n = n := by
  simp only [IntKind.wrap, IntKind.bits, IntKind.signed]
  simp
  omega
theorem run_index_s {P : Program} {t : TypeId} (h : P.underlying t = some .string) {bs : List UInt8} {k : Nat} (hk : k < bs.length) (w : World) :
    (Instr.index t (.string ⟨bs.toArray⟩) (.int .i64 (k : Int))).run P w = .ok (.int .u8 ((bs.getD k 0).toNat : Int)) w := by
  have h1 : (⟨bs.toArray⟩ : ByteArray)[k]? = some (bs.getD k 0) := by
    rw [List.getD_eq_getElem?_getD, List.getElem?_eq_getElem hk]
    have : k < (⟨bs.toArray⟩ : ByteArray).size := by simpa [ByteArray.size] using hk
    rw [getElem?_pos (⟨bs.toArray⟩ : ByteArray) k this]
    simp [ByteArray.getElem_eq_getElem_data]
  simp [Instr.index, asIntOf, run_underlying h, h1]
theorem extract_mk (bs : List UInt8) (a b : Nat) : (⟨bs.toArray⟩ : ByteArray).extract a b = ⟨((bs.drop a).take (b - a)).toArray⟩ := by
  apply ByteArray.ext
  simp [ByteArray.data_extract]
theorem run_slice_sHi {P : Program} {t : TypeId} (h : P.underlying t = some .string) {bs : List UInt8} {k : Nat} (hk : k ≤ bs.length) (w : World) :
    (Instr.sliceAt t (.string ⟨bs.toArray⟩) none (some (.int .i64 (k : Int))) none).run P w = .ok (.string ⟨(bs.take k).toArray⟩) w := by
  have e := extract_mk bs 0 k
  simp only [List.drop_zero, Nat.sub_zero] at e
  have a1 : ((k : Int) ≤ ((⟨bs.toArray⟩ : ByteArray).size : Int)) := by rw [bytes_size]; omega
  have a2 : ¬ (⟨bs.toArray⟩ : ByteArray).size < k := by rw [bytes_size]; omega
  simp [Instr.sliceAt, Instr.slice, run_underlying h, Instr.sliceBounds, Instr.sliceBound, asIntOf, a1, a2, e]
theorem run_slice_s {P : Program} {t : TypeId} (h : P.underlying t = some .string) {bs : List UInt8} {a k : Nat} (ha : a ≤ k) (hk : k ≤ bs.length) (w : World) :
    (Instr.sliceAt t (.string ⟨bs.toArray⟩) (some (.int .i64 (a : Int))) (some (.int .i64 (k : Int))) none).run P w = .ok (.string ⟨((bs.drop a).take (k - a)).toArray⟩) w := by
  have e := extract_mk bs a k
  have a1 : ((k : Int) ≤ ((⟨bs.toArray⟩ : ByteArray).size : Int)) := by rw [bytes_size]; omega
  have a2 : ¬ (⟨bs.toArray⟩ : ByteArray).size < k := by rw [bytes_size]; omega
  have a3 : ¬ (k < a) := by omega
  simp [Instr.sliceAt, Instr.slice, run_underlying h, Instr.sliceBounds, Instr.sliceBound, asIntOf, a1, a2, a3, ha, e]
theorem run_slice_sLo {P : Program} {t : TypeId} (h : P.underlying t = some .string) {bs : List UInt8} {k : Nat} (hk : k ≤ bs.length) (w : World) :
    (Instr.sliceAt t (.string ⟨bs.toArray⟩) (some (.int .i64 (k : Int))) none none).run P w = .ok (.string ⟨(bs.drop k).toArray⟩) w := by
  have e := extract_mk bs k (⟨bs.toArray⟩ : ByteArray).size
  have e2 : ((bs.drop k).take ((⟨bs.toArray⟩ : ByteArray).size - k)) = bs.drop k := List.take_of_length_le (by rw [bytes_size]; simp)
  rw [e2] at e
  have a1 : ((k : Int) ≤ ((⟨bs.toArray⟩ : ByteArray).size : Int)) := by rw [bytes_size]; omega
  have a2 : ¬ (⟨bs.toArray⟩ : ByteArray).size < k := by rw [bytes_size]; omega
  simp [Instr.sliceAt, Instr.slice, run_underlying h, Instr.sliceBounds, Instr.sliceBound, asIntOf, a1, a2, e]
end Go.SL
