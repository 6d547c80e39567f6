/-
  The document's own checksum, bit by bit, is the table's checksum.
-/
import Derived.Test.YtpchnmcofkffiaaDoorCr1
namespace Go.Proofs.YtpchnmcofkffiaaDoor
open Go.RowKit Go.SL

/-- a step for one bit -/
def bit (m : Nat) : Nat := m / 2 ^^^ (if m % 2 = 1 then 2197175160 else 0)

theorem bit_lin (q r : Nat) : bit (2 * q ^^^ r) = q ^^^ bit r := by
  unfold bit
  have h1 : (2 * q ^^^ r) / 2 = q ^^^ r / 2 := by
    have := Nat.xor_div_two_pow (a := 2 * q) (b := r) (n := 1)
    simpa using this
  have h2 : (2 * q ^^^ r) % 2 = r % 2 := by
    have := Nat.xor_mod_two_pow (a := 2 * q) (b := r) (n := 1)
    simpa using this
  rw [h1, h2, Nat.xor_assoc]

theorem bit4 (m : Nat) : bit (bit (bit (bit m))) = half m := by
  have hm : m = 2 * (2 * (2 * (2 * (m / 16)))) ^^^ m % 16 := by
    have h1 := Nat.xor_div_two_pow (a := 2 * (2 * (2 * (2 * (m / 16))))) (b := m % 16) (n := 4)
    have h2 := Nat.xor_mod_two_pow (a := 2 * (2 * (2 * (2 * (m / 16))))) (b := m % 16) (n := 4)
    simp only [Nat.reducePow] at h1 h2
    have e1 : 2 * (2 * (2 * (2 * (m / 16)))) / 16 = m / 16 := by omega
    have e2 : m % 16 / 16 = 0 := by omega
    have e3 : 2 * (2 * (2 * (2 * (m / 16)))) % 16 = 0 := by omega
    rw [e1, e2, Nat.xor_zero] at h1
    rw [e3, Nat.zero_xor] at h2
    omega
  have ht : ∀ r, r < 16 → bit (bit (bit (bit r))) = tab r := by decide
  unfold half
  rw [show m &&& 15 = m % 16 from Nat.and_two_pow_sub_one_eq_mod m 4]
  conv => lhs; rw [hm]
  rw [bit_lin, bit_lin, bit_lin, bit_lin, ht _ (Nat.mod_lt _ (by omega)), Nat.xor_comm]

/-- the document's step: the checksum's number and what is left of the byte -/
def rbit (x : Nat × Nat) : Nat × Nat := (if (x.1 % 2 + x.2 % 2) % 2 = 1 then x.1 / 2 ^^^ 2197175160 else x.1 / 2, x.2 / 2)
def rbits : Nat → Nat × Nat → Nat × Nat
  | 0, x => x
  | k + 1, x => rbit (rbits k x)

theorem rbit_xor (x : Nat × Nat) : (rbit x).1 ^^^ (rbit x).2 = bit (x.1 ^^^ x.2) := by
  obtain ⟨n, c⟩ := x
  unfold rbit bit
  have h1 : (n ^^^ c) / 2 = n / 2 ^^^ c / 2 := by
    have := Nat.xor_div_two_pow (a := n) (b := c) (n := 1)
    simpa using this
  have h2 : (n ^^^ c) % 2 = (n % 2 + c % 2) % 2 := by
    have := Nat.xor_mod_two_pow (a := n) (b := c) (n := 1)
    simp only [Nat.pow_one] at this
    rw [this]
    rcases Nat.mod_two_eq_zero_or_one n with h | h <;> rcases Nat.mod_two_eq_zero_or_one c with h' | h' <;> simp [h, h']
  simp only [h1, h2]
  split
  · rw [Nat.xor_assoc, Nat.xor_comm 2197175160, ← Nat.xor_assoc]
  · rw [Nat.xor_zero]

theorem rbit_lt {x : Nat × Nat} (h : x.1 < 4294967296) : (rbit x).1 < 4294967296 := by
  unfold rbit
  split
  · exact Nat.xor_lt_two_pow (n := 32) (by omega) (by omega)
  · simp only; omega

theorem rbits_lt (k : Nat) {x : Nat × Nat} (h : x.1 < 4294967296) : (rbits k x).1 < 4294967296 := by
  induction k with
  | zero => exact h
  | succ k ih => exact rbit_lt ih

theorem rbits_right (k : Nat) (x : Nat × Nat) : (rbits k x).2 = x.2 / 2 ^ k := by
  induction k with
  | zero => simp [rbits]
  | succ k ih => rw [rbits, rbit, ih, Nat.pow_succ, Nat.div_div_eq_div_mul]

theorem rbits8 (n : Nat) (c : UInt8) : (rbits 8 (n, c.toNat)).1 = crc1 n c := by
  have h0 : (rbits 8 (n, c.toNat)).2 = 0 := by
    rw [rbits_right]
    have := c.toNat_lt
    simp only
    omega
  have h : (rbits 8 (n, c.toNat)).1 ^^^ (rbits 8 (n, c.toNat)).2 = crc1 n c := by
    unfold crc1
    rw [← bit4, ← bit4]
    simp only [rbits, rbit_xor]
  rwa [h0, Nat.xor_zero] at h

theorem tmod2 {m b : Nat} (h : m % 2 = b) : (m : Int).tmod 2 = (b : Int) := by
  rw [Int.tmod_eq_emod_of_nonneg (Int.natCast_nonneg _)]
  omega

def RefRel (bs : List UInt8) (i n : Value) : Prop := ∃ k : Nat, k ≤ bs.length ∧ i = .int .i64 k ∧ n = .int .u32 (crcN (bs.take k) : Nat)
def BitRel (n c : Nat) (i nv cv : Value) : Prop := ∃ j : Nat, j ≤ 8 ∧ i = .int .i64 j ∧ nv = .int .u32 ((rbits j (n, c)).1 : Nat) ∧ cv = .int .u8 ((rbits j (n, c)).2 : Nat)

set_option maxRecDepth 100000 in
theorem refSum_any (bs : List UInt8) (w : World) (hb : bs.length ≤ 1099511627776) :
    Calls Tryd.prog 8 #[.string ⟨bs.toArray⟩] w (fun e w' => e = .returned (.int .u32 (crcV bs : Nat)) ∧ w = w') := by
  go_enter Tryd.func8, Tryd.ntmps8
  go_wp2
  go_loop [4, 3] (fun i n => RefRel bs i n) (fun i _ => bs.length - (intOf i).toNat)
  case atStart => exact ⟨0, Nat.zero_le _, rfl, rfl⟩
  case round =>
    obtain ⟨k, hk, rfl, rfl⟩ := hrel
    by_cases hlt : k < bs.length
    · have hc0 : (ByteArray.mk bs.toArray)[k]'(by simpa [ByteArray.size] using hlt) = bs[k] := rfl
      have Hs := SL.hid (show crcN (bs.take (k + 1)) = (rbits 8 (crcN (bs.take k), bs[k].toNat)).1 by rw [List.take_succ_eq_append_getElem hlt, crcN_snoc, rbits8])
      have hn := crcN_lt (bs.take k)
      have hcl := bs[k].toNat_lt
      go_wp2
      generalize crcN (bs.take k) = n at *
      generalize hcc : bs[k].toNat = c at *
      clear hc0 hcc
      go_loop [6, 3, 5] (fun i nv cv => BitRel n c i nv cv) (fun i _ _ => 8 - (intOf i).toNat)
      case atStart => exact ⟨0, by omega, rfl, rfl, rfl⟩
      case round =>
        obtain ⟨j, hj, rfl, rfl, rfl⟩ := hrel
        by_cases hlt8 : j < 8
        · have hx := rbits_lt j (x := (n, c)) hn
          have hy : (rbits j (n, c)).2 < 256 := by rw [rbits_right]; exact Nat.lt_of_le_of_lt (Nat.div_le_self _ _) (by simpa using hcl)
          have Hn := SL.hid (show rbits (j + 1) (n, c) = rbit (rbits j (n, c)) from rfl)
          have hrel : BitRel n c (.int .i64 ((j : Int) + 1)) (.int .u32 ((rbit (rbits j (n, c))).1 : Nat)) (.int .u8 ((rbit (rbits j (n, c))).2 : Nat)) := ⟨j + 1, hlt8, by simp, rfl, rfl⟩
          clear Hn
          generalize rbits j (n, c) = x at *
          have e1 : (rbit x).2 = x.2 / 2 := rfl
          rcases Nat.mod_two_eq_zero_or_one x.1 with h | h <;> rcases Nat.mod_two_eq_zero_or_one x.2 with h' | h'
          all_goals
            have t1 := tmod2 h
            have t2 := tmod2 h'
          · have e2 := SL.hid (show rbit x = (x.1 / 2, x.2 / 2) by unfold rbit; rw [h, h']; rfl)
            go_wp2
            go_round
            case rel => rw [e2.out] at hrel; simpa using hrel
            case measure => simp [intOf]; omega
          · have e2 := SL.hid (show rbit x = (x.1 / 2 ^^^ 2197175160, x.2 / 2) by unfold rbit; rw [h, h']; rfl)
            have e3 := SL.hid (u32_xor_nat (x.1 / 2) 2197175160 (by omega) (by omega))
            go_wp2
            go_round
            case rel =>
              rw [e2.out] at hrel
              simp only [← e3.out] at hrel
              simpa using hrel
            case measure => simp [intOf]; omega
          · have e2 := SL.hid (show rbit x = (x.1 / 2 ^^^ 2197175160, x.2 / 2) by unfold rbit; rw [h, h']; rfl)
            have e3 := SL.hid (u32_xor_nat (x.1 / 2) 2197175160 (by omega) (by omega))
            go_wp2
            go_round
            case rel =>
              rw [e2.out] at hrel
              simp only [← e3.out] at hrel
              simpa using hrel
            case measure => simp [intOf]; omega
          · have e2 := SL.hid (show rbit x = (x.1 / 2, x.2 / 2) by unfold rbit; rw [h, h']; rfl)
            go_wp2
            go_round
            case rel => rw [e2.out] at hrel; simpa using hrel
            case measure => simp [intOf]; omega
        · have ej : j = 8 := by omega
          subst ej
          go_wp2
          go_round
          case rel => exact ⟨k + 1, hlt, by simp, by rw [Hs.out]⟩
          case measure => simp [intOf]; omega
    · have E1 := SL.hid (show k = bs.length by omega)
      have hn := crcN_lt bs
      go_wp2
      go_ret
      have hk := E1.out
      subst hk
      rw [List.take_length]
      have e : ((4294967295 - (crcN bs : Int)) % 4294967296) = ((crcV bs : Nat) : Int) := by unfold crcV; omega
      exact ⟨by rw [← e]; rfl, rfl⟩
end Go.Proofs.YtpchnmcofkffiaaDoor
