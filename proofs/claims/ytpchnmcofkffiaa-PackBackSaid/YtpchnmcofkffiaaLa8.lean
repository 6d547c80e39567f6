/-
  What was put is taken as itself: the opener's readers over bytes that begin with a written number, hash, text or name.
-/
import Derived.Test.YtpchnmcofkffiaaLa7
namespace Go.Proofs.Ytpchnmcofkffiaa
open Go.RowKit Go.SL

theorem foldl_be (n : Nat) : ∀ (w a : Nat), a < 18446744073709551616 → (be w n).foldl (fun n c => (n * 256 + c.toNat) % 18446744073709551616) a = (a * 256 ^ w + n % 256 ^ w) % 18446744073709551616
  | 0, a, h => by simp [be, Nat.mod_one]; omega
  | w + 1, a, h => by
    rw [be, List.foldl_cons, foldl_be n w _ (Nat.mod_lt _ (by omega))]
    have h1 : (UInt8.ofNat (n / 256 ^ w)).toNat = n / 256 ^ w % 256 := by simp
    have h2 : n % 256 ^ (w + 1) = n % 256 ^ w + 256 ^ w * (n / 256 ^ w % 256) := Nat.mod_pow_succ
    rw [h1, h2, Nat.pow_succ]
    generalize n / 256 ^ w % 256 = c
    generalize n % 256 ^ w = d
    generalize 256 ^ w = e
    rw [Nat.add_mod ((a * 256 + c) % 18446744073709551616 * e), Nat.mod_mul_mod, ← Nat.add_mod]
    congr 1
    rw [Nat.add_mul, Nat.mul_comm e c, Nat.mul_assoc, Nat.mul_comm 256 e]
    omega

theorem beVal_be (n w : Nat) (h : n < 256 ^ w) (hn : n < 18446744073709551616) : beVal (be w n) = n := by
  unfold beVal
  rw [foldl_be n w 0 (by omega), Nat.mod_eq_of_lt h]
  omega

theorem numOk_lt {width : Int} {n : Nat} (h : numOk width n = true) (hn : n < 18446744073709551616) : wideB width = true ∧ n < 256 ^ width.toNat := by
  simp only [numOk, Bool.and_eq_true, Bool.or_eq_true, beq_iff_eq] at h
  refine ⟨h.1, ?_⟩
  rcases h.2 with rfl | h2
  · simpa using hn
  · rcases Nat.lt_or_ge n (256 ^ width.toNat) with h3 | h3
    · exact h3
    · have := Nat.div_pos h3 (Nat.pow_pos (by omega))
      omega

theorem oTake_num {l : List HProp} {w : World} {o : Nat} {width : Int} {n : Nat} {r : List UInt8} (hok : numOk width n = true) (hn : n < 18446744073709551616) (hE : Ent (opener o (be width.toNat n ++ r) 0 :: l) w) (hb : r.length ≤ 1000000) :
    Calls Try.prog 21 #[.pointer (some ⟨o, 0, none⟩), .int .i64 width] w (Ret fun v w' => v = .int .u64 (n : Int) ∧ Ent (opener o r 0 :: l) w') := by
  obtain ⟨hw, hlt⟩ := numOk_lt hok hn
  have hw2 := hw
  simp only [wideB, Bool.or_eq_true, beq_iff_eq] at hw2
  have hl := be_length width.toNat n
  have h := oTake_any hE (by rw [List.length_append, hl]; omega) width
  have e0 : wideN width = width := by simp [wideN, hw]
  have a1 : decide (0 ≤ width) = true := decide_eq_true (by omega)
  have a2 : decide (width ≤ ((be width.toNat n ++ r).length : Int)) = true := decide_eq_true (by rw [List.length_append, hl]; omega)
  have e1 : tkOk width (be width.toNat n ++ r) 0 = true := by
    unfold tkOk
    rw [a1, a2]
    rfl
  have e2 : valT true (be width.toNat n ++ r) width = n := by
    simp only [valT, if_true]
    rw [List.take_append_of_le_length (by omega), List.take_of_length_le (by omega), beVal_be n _ hlt hn]
  have e3 : tkB width (be width.toNat n ++ r) 0 = r := by
    simp only [tkB, e1, if_true]
    rw [List.drop_append_of_le_length (by omega), List.drop_of_length_le (by omega), List.nil_append]
  have e4 : tkE width (be width.toNat n ++ r) 0 = 0 := by
    unfold tkE
    rw [a1, a2]
    rfl
  rw [e0, e1, e2, e3, e4] at h
  exact h

theorem oText_bytes {l : List HProp} {w : World} {o : Nat} {ys r : List UInt8} (hE : Ent (opener o (ys ++ r) 0 :: l) w) (hb : (ys ++ r).length ≤ 1000000) :
    Calls Try.prog 23 #[.pointer (some ⟨o, 0, none⟩), .int .i64 ys.length] w (Ret fun v w' => v = .string ⟨ys.toArray⟩ ∧ Ent (opener o r 0 :: l) w') := by
  have h := oText_ok hE (by omega) ys.length (by simp)
  rw [List.take_left' rfl, List.drop_left' rfl] at h
  exact h

theorem oHash_bytes {l : List HProp} {w : World} {o : Nat} {hs r : List UInt8} (h32 : hs.length = 32) (hE : Ent (opener o (hs ++ r) 0 :: l) w) :
    Calls Try.prog 22 #[.pointer (some ⟨o, 0, none⟩)] w (Ret fun v w' => v = .agg (bvals hs).toArray ∧ Ent (opener o r 0 :: l) w') := by
  have h := oHash_any hE
  have e1 : tkOk 32 (hs ++ r) 0 = true := by simp [tkOk, h32]; omega
  have e2 : hashT true (hs ++ r) 32 = hs := by
    simp only [hashT, if_true]
    exact List.take_left' (by rw [h32]; rfl)
  have e3 : tkB 32 (hs ++ r) 0 = r := by
    simp only [tkB, e1, if_true]
    exact List.drop_left' (by rw [h32]; rfl)
  have e4 : tkE 32 (hs ++ r) 0 = 0 := by simp [tkE, h32]; omega
  rw [e1, e2, e3, e4] at h
  exact h

theorem oName_bytes {l : List HProp} {w : World} {o : Nat} {ys r : List UInt8} (hl : ys.length < 256) (hE : Ent (opener o (UInt8.ofNat ys.length :: ys ++ r) 0 :: l) w) (hb : r.length ≤ 1000000) :
    Calls Try.prog 24 #[.pointer (some ⟨o, 0, none⟩)] w (Ret fun v w' => v = .string ⟨ys.toArray⟩ ∧ Ent (opener o r 0 :: l) w') := by
  have h := oName_any hE (by simp; omega)
  have en : (UInt8.ofNat ys.length).toNat = ys.length := by simp; omega
  have e1 : nameOk (UInt8.ofNat ys.length :: ys ++ r) = true := by
    show decide ((UInt8.ofNat ys.length).toNat ≤ (ys ++ r).length) = true
    rw [en]; simp
  have e2 : nameS (UInt8.ofNat ys.length :: ys ++ r) 0 = ys := by
    unfold nameS
    rw [e1]
    show (ys ++ r).take (UInt8.ofNat ys.length).toNat = ys
    rw [en]; exact List.take_left' rfl
  have e3 : nameB (UInt8.ofNat ys.length :: ys ++ r) 0 = r := by
    unfold nameB
    rw [e1]
    show (ys ++ r).drop (UInt8.ofNat ys.length).toNat = r
    rw [en]; exact List.drop_left' rfl
  have e4 : nameE (UInt8.ofNat ys.length :: ys ++ r) 0 = 0 := by
    unfold nameE
    rw [e1]; rfl
  rw [e2, e3, e4] at h
  exact h
end Go.Proofs.Ytpchnmcofkffiaa
