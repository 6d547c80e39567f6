/-
  The document's own writer of numbers gives the number's bytes, highest first, and tells whether the number fits its width.
-/
import Derived.Test.YtohdljcpaogokaaPk4
namespace Go.Proofs.Ytohdljcpaogokaa
open Go.RowKit Go.SL

def numS (width : Int) (n : Nat) : List UInt8 := if wideB width then be width.toNat n else []

theorem Num_bad (n : Nat) (width : Int) (h1 : (width != 1) = true) (h2 : (width != 2) = true) (h4 : (width != 4) = true) (h8 : (width != 8) = true) (w : World) :
    Calls Try.prog 115 #[.int .i64 width, .int .u64 n] w (fun e w' => e = .returned (.tuple #[.string ⟨#[]⟩, .bool false]) ∧ w = w') := by
  go_enter Try.func115, Try.ntmps115
  go_wp2_with (go_skip)
  go_ret2
  exact ⟨rfl, rfl⟩

def NumRel (n : Nat) (width : Nat) (l : List HProp) (i s m : Value) (wr : World) : Prop := ∃ k : Nat, k ≤ width ∧ i = .int .i64 k ∧ s = .string ⟨(be k n).toArray⟩ ∧ m = .int .u64 ((n / 256 ^ k : Nat) : Int) ∧ Ent l wr

theorem num_byte (n k : Nat) : Value.int .u8 (((n : Int) / 256 ^ k).tmod 256 % 256) = bval (UInt8.ofNat (n / 256 ^ k)) := by
  have e : ((n : Int) / 256 ^ k) = ((n / 256 ^ k : Nat) : Int) := by simp
  rw [e, Int.tmod_eq_emod_of_nonneg (Int.natCast_nonneg _)]
  simp only [bval, UInt8.toNat_ofNat']
  congr 1
  generalize n / 256 ^ k = m
  omega

theorem bytes_add (a b : List UInt8) : (⟨a.toArray⟩ : ByteArray) ++ ⟨b.toArray⟩ = ⟨(a ++ b).toArray⟩ := by
  apply ByteArray.ext
  simp

theorem num_next (n k : Nat) (hn : n < 18446744073709551616) : Value.int .u64 (IntKind.u64.wrap (((n : Int) / 256 ^ k).tdiv 256)) = .int .u64 ((n / 256 ^ (k + 1) : Nat) : Int) := by
  have e : ((n : Int) / 256 ^ k) = ((n / 256 ^ k : Nat) : Int) := by simp
  have h1 : n / 256 ^ k ≤ n := Nat.div_le_self _ _
  have h2 : n / 256 ^ (k + 1) = n / 256 ^ k / 256 := by rw [Nat.pow_succ, Nat.div_div_eq_div_mul]
  rw [e, h2, Int.tdiv_eq_ediv_of_nonneg (Int.natCast_nonneg _)]
  generalize n / 256 ^ k = m at h1
  congr 1
  simp only [IntKind.wrap, IntKind.bits, IntKind.signed, Bool.false_and, Bool.false_eq_true, if_false]
  omega

theorem num_zero (n k : Nat) : (((n : Int) / 256 ^ k) == 0) = (n / 256 ^ k == 0) := by
  have e : ((n : Int) / 256 ^ k) = ((n / 256 ^ k : Nat) : Int) := by simp
  rw [e]
  generalize n / 256 ^ k = m
  rw [Bool.eq_iff_iff]
  simp

set_option maxRecDepth 100000 in
theorem Num_1 (n : Nat) (hn : n < 18446744073709551616) {l : List HProp} {w : World} (hE : Ent l w) :
    Calls Try.prog 115 #[.int .i64 1, .int .u64 n] w (Ret fun v w' => v = .tuple #[.string ⟨(be 1 n).toArray⟩, .bool (n / 256 ^ 1 == 0)] ∧ Ent l w') := by
  go_enter Try.func115, Try.ntmps115
  go_wp2_with (go_skip)
  go_loopw [7, 6, 1] (fun i s m wr => NumRel n 1 l i s m wr) (fun i _ _ _ => 1 - (intOf i).toNat)
  case atStart => exact ⟨0, by omega, rfl, rfl, by simp, hE⟩
  case round =>
    obtain ⟨k, hk, rfl, rfl, rfl, hE⟩ := hrel
    have Hby := SL.hid (num_byte n k)
    have hlen := be_length k n
    by_cases hlt : k < 1
    · go_wp2_with (refine wpl_bytesStr (bs := [UInt8.ofNat (n / 256 ^ k)]) rfl rfl rfl Try.underlying42 Try.underlying5 Try.underlying9 (reads_row (Ent.rowB1 hE _ _ Hby.out) 0 rfl) rfl ?_)
      go_roundw
      case rel => exact ⟨k + 1, hlt, by simp, by simp [be, bytes_add], num_next n k hn, (Ent.rowB1 hE _ _ Hby.out).tail⟩
      case measure => simp [intOf]; omega
    · have E1 := SL.hid (show k = 1 by omega)
      go_wp2
      go_ret2
      have hk := E1.out
      subst hk
      exact ⟨_, rfl, by rw [← num_zero]; rfl, hE⟩

set_option maxRecDepth 100000 in
theorem Num_2 (n : Nat) (hn : n < 18446744073709551616) {l : List HProp} {w : World} (hE : Ent l w) :
    Calls Try.prog 115 #[.int .i64 2, .int .u64 n] w (Ret fun v w' => v = .tuple #[.string ⟨(be 2 n).toArray⟩, .bool (n / 256 ^ 2 == 0)] ∧ Ent l w') := by
  go_enter Try.func115, Try.ntmps115
  go_wp2_with (go_skip)
  go_loopw [7, 6, 1] (fun i s m wr => NumRel n 2 l i s m wr) (fun i _ _ _ => 2 - (intOf i).toNat)
  case atStart => exact ⟨0, by omega, rfl, rfl, by simp, hE⟩
  case round =>
    obtain ⟨k, hk, rfl, rfl, rfl, hE⟩ := hrel
    have Hby := SL.hid (num_byte n k)
    have hlen := be_length k n
    by_cases hlt : k < 2
    · go_wp2_with (refine wpl_bytesStr (bs := [UInt8.ofNat (n / 256 ^ k)]) rfl rfl rfl Try.underlying42 Try.underlying5 Try.underlying9 (reads_row (Ent.rowB1 hE _ _ Hby.out) 0 rfl) rfl ?_)
      go_roundw
      case rel => exact ⟨k + 1, hlt, by simp, by simp [be, bytes_add], num_next n k hn, (Ent.rowB1 hE _ _ Hby.out).tail⟩
      case measure => simp [intOf]; omega
    · have E1 := SL.hid (show k = 2 by omega)
      go_wp2
      go_ret2
      have hk := E1.out
      subst hk
      exact ⟨_, rfl, by rw [← num_zero]; rfl, hE⟩

set_option maxRecDepth 100000 in
theorem Num_4 (n : Nat) (hn : n < 18446744073709551616) {l : List HProp} {w : World} (hE : Ent l w) :
    Calls Try.prog 115 #[.int .i64 4, .int .u64 n] w (Ret fun v w' => v = .tuple #[.string ⟨(be 4 n).toArray⟩, .bool (n / 256 ^ 4 == 0)] ∧ Ent l w') := by
  go_enter Try.func115, Try.ntmps115
  go_wp2_with (go_skip)
  go_loopw [7, 6, 1] (fun i s m wr => NumRel n 4 l i s m wr) (fun i _ _ _ => 4 - (intOf i).toNat)
  case atStart => exact ⟨0, by omega, rfl, rfl, by simp, hE⟩
  case round =>
    obtain ⟨k, hk, rfl, rfl, rfl, hE⟩ := hrel
    have Hby := SL.hid (num_byte n k)
    have hlen := be_length k n
    by_cases hlt : k < 4
    · go_wp2_with (refine wpl_bytesStr (bs := [UInt8.ofNat (n / 256 ^ k)]) rfl rfl rfl Try.underlying42 Try.underlying5 Try.underlying9 (reads_row (Ent.rowB1 hE _ _ Hby.out) 0 rfl) rfl ?_)
      go_roundw
      case rel => exact ⟨k + 1, hlt, by simp, by simp [be, bytes_add], num_next n k hn, (Ent.rowB1 hE _ _ Hby.out).tail⟩
      case measure => simp [intOf]; omega
    · have E1 := SL.hid (show k = 4 by omega)
      go_wp2
      go_ret2
      have hk := E1.out
      subst hk
      exact ⟨_, rfl, by rw [← num_zero]; rfl, hE⟩

set_option maxRecDepth 100000 in
theorem Num_8 (n : Nat) (hn : n < 18446744073709551616) {l : List HProp} {w : World} (hE : Ent l w) :
    Calls Try.prog 115 #[.int .i64 8, .int .u64 n] w (Ret fun v w' => v = .tuple #[.string ⟨(be 8 n).toArray⟩, .bool (n / 256 ^ 8 == 0)] ∧ Ent l w') := by
  go_enter Try.func115, Try.ntmps115
  go_wp2_with (go_skip)
  go_loopw [7, 6, 1] (fun i s m wr => NumRel n 8 l i s m wr) (fun i _ _ _ => 8 - (intOf i).toNat)
  case atStart => exact ⟨0, by omega, rfl, rfl, by simp, hE⟩
  case round =>
    obtain ⟨k, hk, rfl, rfl, rfl, hE⟩ := hrel
    have Hby := SL.hid (num_byte n k)
    have hlen := be_length k n
    by_cases hlt : k < 8
    · go_wp2_with (refine wpl_bytesStr (bs := [UInt8.ofNat (n / 256 ^ k)]) rfl rfl rfl Try.underlying42 Try.underlying5 Try.underlying9 (reads_row (Ent.rowB1 hE _ _ Hby.out) 0 rfl) rfl ?_)
      go_roundw
      case rel => exact ⟨k + 1, hlt, by simp, by simp [be, bytes_add], num_next n k hn, (Ent.rowB1 hE _ _ Hby.out).tail⟩
      case measure => simp [intOf]; omega
    · have E1 := SL.hid (show k = 8 by omega)
      go_wp2
      go_ret2
      have hk := E1.out
      subst hk
      exact ⟨_, rfl, by rw [← num_zero]; rfl, hE⟩

theorem Num_any (n : Nat) (hn : n < 18446744073709551616) (width : Int) {l : List HProp} {w : World} (hE : Ent l w) :
    Calls Try.prog 115 #[.int .i64 width, .int .u64 n] w (Ret fun v w' => v = .tuple #[.string ⟨(numS width n).toArray⟩, .bool (numOk width n)] ∧ Ent l w') := by
  cases hw : wideB width with
  | false =>
    have e1 : numS width n = [] := by simp [numS, hw]
    have e2 : numOk width n = false := by simp [numOk, hw]
    rw [e1, e2]
    simp only [wideB, Bool.or_eq_false_iff] at hw
    refine (Num_bad n width (by simp [bne, hw]) (by simp [bne, hw]) (by simp [bne, hw]) (by simp [bne, hw]) w).mono ?_
    rintro e w' ⟨rfl, rfl⟩
    exact ⟨_, rfl, rfl, hE⟩
  | true =>
    simp only [wideB, Bool.or_eq_true, beq_iff_eq] at hw
    rcases hw with ((rfl | rfl) | rfl) | rfl
    · exact Num_1 n hn hE
    · exact Num_2 n hn hE
    · exact Num_4 n hn hE
    · have h := Num_8 n hn hE
      have e : (n / 256 ^ 8 == 0) = true := by simp; omega
      rw [e] at h
      exact h
end Go.Proofs.Ytohdljcpaogokaa
