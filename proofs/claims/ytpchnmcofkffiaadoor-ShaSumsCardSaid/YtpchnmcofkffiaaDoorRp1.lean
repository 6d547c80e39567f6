/-
  The document's words and its filling are the program's.
-/
import Derived.Test.YtpchnmcofkffiaaDoorSh8
import Derived.Test.YtpchnmcofkffiaaDoorRf7
namespace Go.Proofs.YtpchnmcofkffiaaDoor

theorem ringSeq_low (bs : List UInt8) : ∀ i, i ≤ 16 → ringSeq bs i = ring0 bs
  | 0, _ => rfl
  | i + 1, h => by
    rw [ringSeq, ringSeq_low bs i (by omega)]
    unfold ringAt
    rw [if_pos (by omega)]
theorem ringSeq_len (bs : List UInt8) : ∀ i, (ringSeq bs i).length = 16
  | 0 => ring0_len bs
  | i + 1 => by rw [ringSeq, ringAt_len, ringSeq_len bs i]
theorem ring0_get (bs : List UInt8) {i : Nat} (h : i < 16) : (ring0 bs).getD i 0 = wordOf bs i := by
  simp [ring0, List.getD_eq_getElem?_getD, h]
theorem nextW_low {bs : List UInt8} {i : Nat} (h : i < 16) : nextW bs i = wordOf bs i := by
  unfold nextW
  rw [ringSeq_low bs i (by omega)]
  unfold ringAt
  rw [if_pos h, Nat.mod_eq_of_lt h, ring0_get bs h]
theorem ring_has (bs : List UInt8) : ∀ d m, m < 16 + d → d ≤ m → (ringSeq bs (16 + d)).getD (m % 16) 0 = nextW bs m
  | 0, m, h1, _ => by
    rw [ringSeq_low bs _ (by omega), Nat.mod_eq_of_lt (by omega), ring0_get bs (by omega), nextW_low (by omega)]
  | d + 1, m, h1, h2 => by
    have e : ringSeq bs (16 + (d + 1)) = ringAt (ringSeq bs (16 + d)) (16 + d) := rfl
    rw [e]
    by_cases hm : m = 16 + d
    · subst hm; rfl
    · rw [← ring_has bs d m (by omega) (by omega)]
      unfold ringAt
      rw [if_neg (by omega), List.getD_eq_getElem?_getD, List.getElem?_set_ne (by omega), ← List.getD_eq_getElem?_getD]
theorem nextW_high {bs : List UInt8} {i : Nat} (h : 16 ≤ i) : nextW bs i = (nextW bs (i - 16) + (ls0 (nextW bs (i - 15)) + nextW bs (i - 7) + ls1 (nextW bs (i - 2)))) % 4294967296 := by
  obtain ⟨d, rfl⟩ : ∃ d, i = 16 + d := ⟨i - 16, by omega⟩
  have h0 := ring_has bs d d (by omega) (by omega)
  have h1 := ring_has bs d (d + 1) (by omega) (by omega)
  have h9 := ring_has bs d (d + 9) (by omega) (by omega)
  have h14 := ring_has bs d (d + 14) (by omega) (by omega)
  have e0 : (16 + d) % 16 = d % 16 := by omega
  have e1 : (16 + d + 1) % 16 = (d + 1) % 16 := by omega
  have e9 : (16 + d + 9) % 16 = (d + 9) % 16 := by omega
  have e14 : (16 + d + 14) % 16 = (d + 14) % 16 := by omega
  rw [show 16 + d - 16 = d by omega, show 16 + d - 15 = d + 1 by omega, show 16 + d - 7 = d + 9 by omega, show 16 + d - 2 = d + 14 by omega]
  rw [← h0, ← h1, ← h9, ← h14]
  have hr : ringAt (ringSeq bs (16 + d)) (16 + d) = (ringSeq bs (16 + d)).set (d % 16) (((ringSeq bs (16 + d)).getD (d % 16) 0 + (ls0 ((ringSeq bs (16 + d)).getD ((d + 1) % 16) 0) + (ringSeq bs (16 + d)).getD ((d + 9) % 16) 0 + ls1 ((ringSeq bs (16 + d)).getD ((d + 14) % 16) 0))) % 4294967296) := by
    unfold ringAt
    rw [if_neg (by omega), e0, e1, e9, e14]
  show (ringAt (ringSeq bs (16 + d)) (16 + d)).getD ((16 + d) % 16) 0 = _
  rw [e0]
  exact ring_got hr (by rw [ringSeq_len]; exact Nat.mod_lt _ (by decide))
theorem nextW_lt (bs : List UInt8) (i : Nat) : nextW bs i < 4294967296 := by
  by_cases h : i < 16
  · rw [nextW_low h]; exact wordOf_lt bs i
  · rw [nextW_high (by omega)]; exact Nat.mod_lt _ (by decide)
def wst (bs : List UInt8) : Nat → List Nat
  | 0 => List.replicate 64 0
  | i + 1 => (wst bs i).set i (nextW bs i)
theorem wst_len (bs : List UInt8) : ∀ i, (wst bs i).length = 64
  | 0 => by simp [wst]
  | i + 1 => by rw [wst, List.length_set, wst_len bs i]
theorem wst_get (bs : List UInt8) : ∀ i, i ≤ 64 → ∀ m, m < i → (wst bs i).getD m 0 = nextW bs m
  | 0, _, m, h => by omega
  | i + 1, hi, m, h => by
    rw [wst, List.getD_eq_getElem?_getD]
    by_cases hm : m = i
    · subst hm
      rw [List.getElem?_set_self (by rw [wst_len]; omega)]; rfl
    · rw [List.getElem?_set_ne (Ne.symm hm), ← List.getD_eq_getElem?_getD]
      exact wst_get bs i (by omega) m (by omega)

theorem eatAll_app : ∀ (a : Nat) (v : W8) (xs ys : List UInt8) (b : Nat), xs.length = 64 * a → eatAll v (xs ++ ys) (a + b) = eatAll (eatAll v xs a) ys b
  | 0, v, xs, ys, b, h => by
    obtain rfl : xs = [] := List.eq_nil_of_length_eq_zero (by omega)
    rw [Nat.zero_add]; rfl
  | a + 1, v, xs, ys, b, h => by
    rw [show a + 1 + b = (a + b) + 1 by omega, eatAll, eatAll, List.take_append_of_le_length (by omega), List.drop_append_of_le_length (by omega)]
    exact eatAll_app a _ _ ys b (by rw [List.length_drop]; omega)
theorem pad_whole (bs : List UInt8) : padR bs = bs.take (64 * (bs.length / 64)) ++ pad (bs.drop (64 * (bs.length / 64))) (bs.length * 8) := by
  have hr : (bs.drop (64 * (bs.length / 64))).length = bs.length % 64 := by rw [List.length_drop]; omega
  unfold padR padB pad
  rw [hr]
  simp only [← List.append_assoc, List.take_append_drop]
  congr 2
  unfold zNeed
  have := Nat.mod_lt bs.length (show 64 > 0 by decide)
  split <;> congr 1 <;> omega
theorem shaV_is (bs : List UInt8) : shaV bs = outOf (eatAll hFirst (padR bs) ((padR bs).length / 64)) := by
  have hp := pad_whole bs
  have h64 := padR_64 bs
  have hl := congrArg List.length hp
  rw [List.length_append, List.length_take] at hl
  have hq : eatAll hFirst bs (bs.length / 64) = eatAll hFirst (bs.take (64 * (bs.length / 64))) (bs.length / 64) := by
    conv => lhs; rw [← List.take_append_drop (64 * (bs.length / 64)) bs]
    rw [List.take_append_drop, ← eatAll_left (bs.length / 64) hFirst (ys := bs.drop (64 * (bs.length / 64))) (xs := bs.take (64 * (bs.length / 64))) (by rw [List.length_take]; omega), List.take_append_drop]
  have e : (padR bs).length / 64 = bs.length / 64 + (pad (bs.drop (64 * (bs.length / 64))) (bs.length * 8)).length / 64 := by omega
  have hs : shaV bs = outOf (eatAll (eatAll hFirst bs (bs.length / 64)) (pad (bs.drop (64 * (bs.length / 64))) (bs.length * 8)) ((pad (bs.drop (64 * (bs.length / 64))) (bs.length * 8)).length / 64)) := by
    rw [Nat.mul_comm 64]; rfl
  rw [hs, e, hq]
  conv => rhs; rw [hp]
  rw [eatAll_app _ _ _ _ _ (by rw [List.length_take]; omega)]
theorem word_block {p : List UInt8} {j i : Nat} (h : 64 * (j + 1) ≤ p.length) (hi : i < 16) : wordOf ((p.drop (64 * j)).take 64) i = wordOf p (16 * j + i) := by
  have key : ∀ k, k < 64 → ((p.drop (64 * j)).take 64).getD k 0 = p.getD (64 * j + k) 0 := fun k hk => by
    rw [List.getD_eq_getElem?_getD, List.getD_eq_getElem?_getD, List.getElem?_take, if_pos hk, List.getElem?_drop]
  unfold wordOf
  rw [key _ (by omega), key _ (by omega), key _ (by omega), key _ (by omega)]
  rw [show 64 * j + 4 * i = 4 * (16 * j + i) by omega, show 64 * j + (4 * i + 1) = 4 * (16 * j + i) + 1 by omega, show 64 * j + (4 * i + 2) = 4 * (16 * j + i) + 2 by omega, show 64 * j + (4 * i + 3) = 4 * (16 * j + i) + 3 by omega]
end Go.Proofs.YtpchnmcofkffiaaDoor
