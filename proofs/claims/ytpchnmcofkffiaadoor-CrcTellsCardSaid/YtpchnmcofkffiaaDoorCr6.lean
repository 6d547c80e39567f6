/-
  The checksum as a walk over bits: a burst of at most 32 bits is told; bytes with their checksum behind them have one checksum. Plain facts on lists of bytes.
-/
import Derived.Test.YtpchnmcofkffiaaDoorCr5
namespace Go.Proofs.YtpchnmcofkffiaaDoor

theorem byteBits_num : ∀ c, c < 256 → numOf (byteBits c) = c := by decide +kernel
theorem byteBits_length (c : Nat) : (byteBits c).length = 8 := by simp [byteBits]

theorem crc1_bits (n : Nat) (c : UInt8) : crc1 n c = (byteBits c.toNat).foldl stepB n := by
  rw [foldB_num, byteBits_length, byteBits_num _ (by have := c.toNat_lt; omega)]
  unfold crc1
  rw [← bit4, ← bit4]
  rfl

theorem bitsOf_append (a b : List UInt8) : bitsOf (a ++ b) = bitsOf a ++ bitsOf b := by simp [bitsOf]
theorem bitsOf_length (bs : List UInt8) : (bitsOf bs).length = 8 * bs.length := by
  induction bs with
  | nil => rfl
  | cons c bs ih => rw [show bitsOf (c :: bs) = byteBits c.toNat ++ bitsOf bs from rfl, List.length_append, ih, byteBits_length, List.length_cons]; omega

theorem crc_fold (bs : List UInt8) : ∀ n, bs.foldl crc1 n = (bitsOf bs).foldl stepB n := by
  induction bs with
  | nil => intro n; rfl
  | cons c bs ih =>
    intro n
    rw [List.foldl_cons, ih, crc1_bits, show bitsOf (c :: bs) = byteBits c.toNat ++ bitsOf bs from rfl, List.foldl_append]

theorem crcN_bits (bs : List UInt8) : crcN bs = (bitsOf bs).foldl stepB 4294967295 := crc_fold bs _

theorem byteBits_inj {a b : UInt8} (h : byteBits a.toNat = byteBits b.toNat) : a = b := by
  have := congrArg numOf h
  rw [byteBits_num _ (by have := a.toNat_lt; omega), byteBits_num _ (by have := b.toNat_lt; omega)] at this
  exact UInt8.toNat_inj.1 this

theorem bitsOf_inj : ∀ {a b : List UInt8}, a.length = b.length → bitsOf a = bitsOf b → a = b
  | [], [], _, _ => rfl
  | x :: a, y :: b, hl, h => by
    have h' : byteBits x.toNat ++ bitsOf a = byteBits y.toNat ++ bitsOf b := h
    obtain ⟨h1, h2⟩ := List.append_inj h' (by rw [byteBits_length, byteBits_length])
    rw [byteBits_inj h1, bitsOf_inj (by simpa using hl) h2]

/-- two texts that differ in a window of 32 bits alone -/
def Near (s : Nat) (a b : List UInt8) : Prop := a.length = b.length ∧ (bitsOf a).take s = (bitsOf b).take s ∧ (bitsOf a).drop (s + 32) = (bitsOf b).drop (s + 32)

theorem Near.refl (s : Nat) (a : List UInt8) : Near s a a := ⟨rfl, rfl, rfl⟩

theorem parts (l : List Bool) (s : Nat) : l = l.take s ++ (l.drop s).take 32 ++ l.drop (s + 32) := by
  rw [List.append_assoc, ← List.drop_drop, List.take_append_drop, List.take_append_drop]

theorem Near.tells {s : Nat} {a b : List UInt8} (h : Near s a b) : (crcV a == crcV b) = (a == b) := by
  obtain ⟨hl, ht, hd⟩ := h
  rw [Bool.eq_iff_iff]
  simp only [beq_iff_eq]
  constructor
  · intro hc
    have ha := crcN_lt a
    have hb := crcN_lt b
    have hn : crcN a = crcN b := by unfold crcV at hc; omega
    rw [crcN_bits, crcN_bits, parts (bitsOf a) s, parts (bitsOf b) s, ht, hd] at hn
    have hll : ((bitsOf a).drop s).length = ((bitsOf b).drop s).length := by rw [List.length_drop, List.length_drop, bitsOf_length, bitsOf_length, hl]
    have hw := burst (z := 4294967295) (by omega) (a := ((bitsOf a).drop s).take 32) (b := ((bitsOf b).drop s).take 32) (by rw [List.length_take, List.length_take, hll]) (by rw [List.length_take]; omega) hn
    apply bitsOf_inj hl
    rw [parts (bitsOf a) s, parts (bitsOf b) s, ht, hd, hw]
  · rintro rfl
    rfl

/-- a bit turned -/
def flip1 (bs : List UInt8) (k : Nat) : List UInt8 := bs.set (k / 8) (bs.getD (k / 8) 0 ^^^ UInt8.ofNat (2 ^ (k % 8)))

theorem byteBits_flip : ∀ c, c < 256 → ∀ j, j < 8 → byteBits (c ^^^ 2 ^ j) = (byteBits c).set j (!(c.testBit j)) := by decide +kernel

theorem bitsOf_flip : ∀ (bs : List UInt8) (k : Nat), k < 8 * bs.length → ∃ x, bitsOf (flip1 bs k) = (bitsOf bs).set k x
  | [], k, h => by simp at h
  | c :: bs, k, h => by
    by_cases hk : k < 8
    · have e1 : k / 8 = 0 := by omega
      have e2 : k % 8 = k := by omega
      refine ⟨!(c.toNat.testBit k), ?_⟩
      unfold flip1
      rw [e1, e2]
      have hp : (UInt8.ofNat (2 ^ k)).toNat = 2 ^ k := by
        have : ∀ k, k < 8 → (UInt8.ofNat (2 ^ k)).toNat = 2 ^ k := by decide
        exact this k hk
      have hc : (c ^^^ UInt8.ofNat (2 ^ k)).toNat = c.toNat ^^^ 2 ^ k := by rw [UInt8.toNat_xor, hp]
      show byteBits (c ^^^ UInt8.ofNat (2 ^ k)).toNat ++ bitsOf bs = (byteBits c.toNat ++ bitsOf bs).set k _
      rw [hc, byteBits_flip _ (by have := c.toNat_lt; omega) _ hk, List.set_append_left _ _ (by rw [byteBits_length]; omega)]
    · obtain ⟨x, hx⟩ := bitsOf_flip bs (k - 8) (by simp at h; omega)
      refine ⟨x, ?_⟩
      have e1 : k / 8 = (k - 8) / 8 + 1 := by omega
      have e2 : k % 8 = (k - 8) % 8 := by omega
      have hf : flip1 (c :: bs) k = c :: flip1 bs (k - 8) := by
        unfold flip1
        rw [e1, e2]
        rfl
      rw [hf]
      show byteBits c.toNat ++ bitsOf (flip1 bs (k - 8)) = (byteBits c.toNat ++ bitsOf bs).set k x
      rw [hx, List.set_append_right _ _ (by rw [byteBits_length]; omega), byteBits_length]

theorem flip1_length (bs : List UInt8) (k : Nat) : (flip1 bs k).length = bs.length := by simp [flip1]

theorem Near.flip {s : Nat} {a b : List UInt8} (h : Near s a b) {k : Nat} (h1 : s ≤ k) (h2 : k < s + 32) (hk : k < 8 * a.length) : Near s (flip1 a k) b := by
  obtain ⟨hl, ht, hd⟩ := h
  obtain ⟨x, hx⟩ := bitsOf_flip a k hk
  refine ⟨by rw [flip1_length, hl], ?_, ?_⟩
  · rw [hx, List.take_set_of_le h1, ht]
  · rw [hx, List.drop_set_of_lt h2, hd]

/-- a number's four bytes, the lowest first -/
def le4 (s : Nat) : List UInt8 := [UInt8.ofNat s, UInt8.ofNat (s / 256), UInt8.ofNat (s / 65536), UInt8.ofNat (s / 16777216)]

theorem numOf_append : ∀ (a b : List Bool), numOf (a ++ b) = numOf a + 2 ^ a.length * numOf b
  | [], b => by simp [numOf]
  | e :: a, b => by
    simp only [List.cons_append, numOf, numOf_append a b, List.length_cons, Nat.pow_succ]
    generalize 2 ^ a.length = p
    rw [Nat.mul_comm p 2, Nat.mul_assoc]
    omega

theorem numOf_le4 (s : Nat) (h : s < 4294967296) : numOf (bitsOf (le4 s)) = s := by
  have e : bitsOf (le4 s) = byteBits (s % 256) ++ (byteBits (s / 256 % 256) ++ (byteBits (s / 65536 % 256) ++ byteBits (s / 16777216 % 256))) := by
    simp [bitsOf, le4]
  rw [e]
  simp only [numOf_append, byteBits_length]
  rw [byteBits_num _ (Nat.mod_lt _ (by omega)), byteBits_num _ (Nat.mod_lt _ (by omega)), byteBits_num _ (Nat.mod_lt _ (by omega)), byteBits_num _ (Nat.mod_lt _ (by omega))]
  omega

theorem xor_not (n : Nat) (h : n < 4294967296) : n ^^^ (4294967295 - n) = 4294967295 := by
  have h3 : (BitVec.ofNat 32 n ^^^ ~~~ BitVec.ofNat 32 n) = BitVec.allOnes 32 := by
    rw [← BitVec.allOnes_xor, BitVec.xor_comm (BitVec.allOnes 32), ← BitVec.xor_assoc, BitVec.xor_self, BitVec.zero_xor]
  have h4 := congrArg BitVec.toNat h3
  rw [BitVec.toNat_xor, BitVec.toNat_not, BitVec.toNat_allOnes, BitVec.toNat_ofNat, Nat.mod_eq_of_lt (by omega)] at h4
  exact h4

theorem residue (bs : List UInt8) : crcV (bs ++ le4 (crcV bs)) = 1214729159 := by
  have hN := crcN_lt bs
  have h1 : crcN (bs ++ le4 (crcV bs)) = bitN 32 4294967295 := by
    rw [crcN_bits, bitsOf_append, List.foldl_append, ← crcN_bits, foldB_num, numOf_le4 _ (by unfold crcV; omega)]
    rw [show (bitsOf (le4 (crcV bs))).length = 32 by rw [bitsOf_length]; rfl]
    unfold crcV
    rw [xor_not _ hN]
  unfold crcV at h1 ⊢
  rw [h1]
  decide +kernel
end Go.Proofs.YtpchnmcofkffiaaDoor
