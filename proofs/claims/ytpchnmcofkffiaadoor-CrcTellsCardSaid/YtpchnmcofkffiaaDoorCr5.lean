/-
  What is changed within 32 bits side by side is told by the checksum; bytes with their checksum behind them have always the same one. Plain facts on lists of bytes and bits.
-/
import Derived.Test.YtpchnmcofkffiaaDoorCr4
namespace Go.Proofs.YtpchnmcofkffiaaDoor

/-- a byte's bits, the lowest first -/
def byteBits (c : Nat) : List Bool := (List.range 8).map fun i => c.testBit i
def bitsOf (bs : List UInt8) : List Bool := bs.flatMap fun c => byteBits c.toNat
def stepB (m : Nat) (e : Bool) : Nat := bit (m ^^^ e.toNat)

theorem bit_zero : bit 0 = 0 := by decide
theorem bit_lt {m : Nat} (h : m < 4294967296) : bit m < 4294967296 := by
  unfold bit
  split
  · exact Nat.xor_lt_two_pow (n := 32) (by omega) (by omega)
  · simp; omega

theorem bit_inj {a b : Nat} (ha : a < 4294967296) (hb : b < 4294967296) (h : bit a = bit b) : a = b := by
  unfold bit at h
  have hP : ∀ x : Nat, x < 2147483648 → (x ^^^ 2197175160).testBit 31 = true := by
    intro x hx
    rw [Nat.testBit_xor, Nat.testBit_lt_two_pow (by omega)]
    rfl
  have hN : ∀ x : Nat, x < 2147483648 → (x ^^^ 0).testBit 31 = false := by
    intro x hx
    rw [Nat.xor_zero, Nat.testBit_lt_two_pow (by omega)]
  rcases Nat.mod_two_eq_zero_or_one a with h1 | h1 <;> rcases Nat.mod_two_eq_zero_or_one b with h2 | h2
  · rw [h1, h2] at h
    simp at h
    omega
  · rw [h1, h2, if_neg (by decide), if_pos rfl] at h
    have := congrArg (fun n => Nat.testBit n 31) h
    simp only [hP _ (show b / 2 < 2147483648 by omega), hN _ (show a / 2 < 2147483648 by omega)] at this
    cases this
  · rw [h1, h2, if_pos rfl, if_neg (by decide)] at h
    have := congrArg (fun n => Nat.testBit n 31) h
    simp only [hP _ (show a / 2 < 2147483648 by omega), hN _ (show b / 2 < 2147483648 by omega)] at this
    cases this
  · rw [h1, h2, if_pos rfl] at h
    have h3 : a / 2 = b / 2 := by
      have := congrArg (· ^^^ 2197175160) h
      simpa [Nat.xor_assoc] using this
    omega

theorem xor_bit_lt {m : Nat} (h : m < 4294967296) (e : Bool) : m ^^^ e.toNat < 4294967296 := Nat.xor_lt_two_pow (n := 32) (by omega) (by cases e <;> decide)
theorem stepB_lt {m : Nat} (h : m < 4294967296) (e : Bool) : stepB m e < 4294967296 := bit_lt (xor_bit_lt h e)
theorem foldB_lt (l : List Bool) : ∀ {m : Nat}, m < 4294967296 → l.foldl stepB m < 4294967296 := by
  induction l with
  | nil => intro m h; exact h
  | cons e l ih => intro m h; exact ih (stepB_lt h e)

/-- the same bits from two states: the states are told apart -/
theorem foldB_inj (l : List Bool) : ∀ {a b : Nat}, a < 4294967296 → b < 4294967296 → l.foldl stepB a = l.foldl stepB b → a = b := by
  induction l with
  | nil => intro a b _ _ h; exact h
  | cons e l ih =>
    intro a b ha hb h
    have h1 := bit_inj (xor_bit_lt ha e) (xor_bit_lt hb e) (ih (stepB_lt ha e) (stepB_lt hb e) h)
    have := congrArg (· ^^^ e.toNat) h1
    simpa [Nat.xor_assoc] using this

def bitN : Nat → Nat → Nat
  | 0, m => m
  | t + 1, m => bit (bitN t m)

theorem bitN_lin : ∀ (t q r : Nat), bitN t (2 ^ t * q ^^^ r) = q ^^^ bitN t r
  | 0, q, r => by simp [bitN]
  | t + 1, q, r => by
    rw [bitN, show 2 ^ (t + 1) * q = 2 ^ t * (2 * q) by rw [Nat.pow_succ, Nat.mul_assoc], bitN_lin t (2 * q) r, bit_lin, bitN]

theorem bitN_lt (t : Nat) {m : Nat} (h : m < 4294967296) : bitN t m < 4294967296 := by
  induction t with
  | zero => exact h
  | succ t ih => exact bit_lt ih

theorem bitN_inj (t : Nat) {a b : Nat} (ha : a < 4294967296) (hb : b < 4294967296) (h : bitN t a = bitN t b) : a = b := by
  induction t with
  | zero => exact h
  | succ t ih => exact ih (bit_inj (bitN_lt t ha) (bitN_lt t hb) h)

/-- the number of bits, the lowest first -/
def numOf : List Bool → Nat
  | [] => 0
  | e :: l => 2 * numOf l + e.toNat

theorem numOf_lt (l : List Bool) : numOf l < 2 ^ l.length := by
  induction l with
  | nil => simp [numOf]
  | cons e l ih =>
    simp only [numOf, List.length_cons, Nat.pow_succ]
    have : e.toNat ≤ 1 := by cases e <;> decide
    omega

theorem numOf_inj : ∀ {a b : List Bool}, a.length = b.length → numOf a = numOf b → a = b
  | [], [], _, _ => rfl
  | x :: a, y :: b, hl, h => by
    simp only [numOf] at h
    have hx : x.toNat ≤ 1 := by cases x <;> decide
    have hy : y.toNat ≤ 1 := by cases y <;> decide
    have h1 : numOf a = numOf b := by omega
    have h2 : x.toNat = y.toNat := by omega
    rw [numOf_inj (by simpa using hl) h1]
    congr 1
    cases x <;> cases y <;> simp_all

/-- bits taken in one behind the other are their number taken in at once -/
theorem foldB_num : ∀ (l : List Bool) (z : Nat), l.foldl stepB z = bitN l.length (z ^^^ numOf l) := by
  intro l
  induction l with
  | nil => intro z; simp [bitN, numOf]
  | cons e l ih =>
    intro z
    rw [List.foldl_cons, ih, List.length_cons]
    have hcomm : ∀ (t m : Nat), bitN t (bit m) = bit (bitN t m) := by
      intro t m
      induction t with
      | zero => rfl
      | succ t ih => rw [bitN, ih, bitN]
    rw [bitN, ← hcomm, stepB]
    congr 1
    have hn : numOf (e :: l) = 2 * numOf l ^^^ e.toNat := by
      simp only [numOf]
      have h1 := Nat.xor_div_two_pow (a := 2 * numOf l) (b := e.toNat) (n := 1)
      have h2 := Nat.xor_mod_two_pow (a := 2 * numOf l) (b := e.toNat) (n := 1)
      simp only [Nat.pow_one] at h1 h2
      have e1 : 2 * numOf l / 2 = numOf l := by omega
      have e2 : e.toNat / 2 = 0 := by cases e <;> decide
      have e3 : 2 * numOf l % 2 = 0 := by omega
      have e4 : e.toNat % 2 = e.toNat := by cases e <;> decide
      rw [e1, e2, Nat.xor_zero] at h1
      rw [e3, e4, Nat.zero_xor] at h2
      omega
    rw [hn]
    have h3 : z ^^^ (2 * numOf l ^^^ e.toNat) = 2 * numOf l ^^^ (z ^^^ e.toNat) := by
      rw [← Nat.xor_assoc, Nat.xor_comm z, Nat.xor_assoc]
    rw [h3, bit_lin, Nat.xor_comm]

theorem window {z : Nat} (hz : z < 4294967296) {a b : List Bool} (hl : a.length = b.length) (h32 : a.length ≤ 32) (h : a.foldl stepB z = b.foldl stepB z) : a = b := by
  rw [foldB_num, foldB_num, ← hl] at h
  have hp : 2 ^ a.length ≤ 2 ^ 32 := Nat.pow_le_pow_right (by omega) h32
  have ha : z ^^^ numOf a < 4294967296 := Nat.xor_lt_two_pow (n := 32) (by omega) (by have := numOf_lt a; omega)
  have hb : z ^^^ numOf b < 4294967296 := Nat.xor_lt_two_pow (n := 32) (by omega) (by have := numOf_lt b; rw [← hl] at this; omega)
  have h1 := bitN_inj _ ha hb h
  have h2 : numOf a = numOf b := by
    have := congrArg (z ^^^ ·) h1
    simpa [← Nat.xor_assoc] using this
  exact numOf_inj hl h2

/-- two rows of bits that differ in a window of at most 32 bits alone -/
theorem burst {z : Nat} (hz : z < 4294967296) {p a b s : List Bool} (hl : a.length = b.length) (h32 : a.length ≤ 32) (h : (p ++ a ++ s).foldl stepB z = (p ++ b ++ s).foldl stepB z) : a = b := by
  simp only [List.foldl_append] at h
  have h1 := foldB_inj s (foldB_lt a (foldB_lt p hz)) (foldB_lt b (foldB_lt p hz)) h
  exact window (foldB_lt p hz) hl h32 h1
end Go.Proofs.YtpchnmcofkffiaaDoor
