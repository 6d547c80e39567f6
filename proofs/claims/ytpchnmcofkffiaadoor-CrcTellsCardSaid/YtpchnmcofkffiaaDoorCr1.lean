/-
  What the checksum's function computes of any bytes: a step for each half of a byte, by the table.
-/
import Derived.Test.YtpchnmcofkffiaaDoorChecked
import Derived.Test.YtpchnmcofkffiaaDoorFr
import Derived.Laws.BitsAllLaws
namespace Go.Proofs.YtpchnmcofkffiaaDoor
open Go.RowKit Go.SL

def halves : List Nat := [0, 274646895, 549293790, 820201905, 1098587580, 1361435347, 1640403810, 1905808397, 2197175160, 2460548119, 2722870694, 2987750089, 3280807620, 3553878443, 3811616794, 4084100981]
def tab (i : Nat) : Nat := halves.getD i 0
def half (n : Nat) : Nat := tab (n &&& 15) ^^^ (n / 16)
def crc1 (n : Nat) (c : UInt8) : Nat := half (half (n ^^^ c.toNat))
def crcN (bs : List UInt8) : Nat := bs.foldl crc1 4294967295
def crcV (bs : List UInt8) : Nat := 4294967295 - crcN bs

def Table (w : World) : Prop := ∀ i, i < 16 → w.cell? ⟨0, i, none⟩ = some (.int .u32 ((tab i : Nat) : Int))

theorem halves_lt (i : Nat) : tab i < 4294967296 := by
  unfold tab
  by_cases h : i < 16
  · have : ∀ i, i < 16 → halves.getD i 0 < 4294967296 := by decide
    exact this i h
  · have : halves.getD i 0 = 0 := by
      rw [List.getD_eq_getElem?_getD, List.getElem?_eq_none (by simp [halves]; omega)]; rfl
    omega

theorem half_lt {n : Nat} (h : n < 4294967296) : half n < 4294967296 := by
  unfold half
  have := halves_lt (n &&& 15)
  exact Nat.xor_lt_two_pow (n := 32) (by omega) (by omega)

theorem xor_lt {n : Nat} (h : n < 4294967296) (c : UInt8) : n ^^^ c.toNat < 4294967296 := Nat.xor_lt_two_pow (n := 32) (by omega) (by have := c.toNat_lt; omega)

theorem crc1_lt {n : Nat} (h : n < 4294967296) (c : UInt8) : crc1 n c < 4294967296 := half_lt (half_lt (xor_lt h c))

theorem crcN_lt (bs : List UInt8) : crcN bs < 4294967296 := by
  unfold crcN
  rcases List.eq_nil_or_concat bs with rfl | ⟨l, c, rfl⟩
  · decide
  · have : ∀ (l : List UInt8) (n : Nat), n < 4294967296 → l.foldl crc1 n < 4294967296 := by
      intro l
      induction l with
      | nil => intro n h; exact h
      | cons c l ih => intro n h; exact ih _ (crc1_lt h c)
    exact this _ _ (by omega)

theorem crcN_snoc (l : List UInt8) (c : UInt8) : crcN (l ++ [c]) = crc1 (crcN l) c := by simp [crcN]

def SumRel (bs : List UInt8) (i n : Value) : Prop := ∃ k : Nat, k ≤ bs.length ∧ i = .int .i64 k ∧ n = .int .u32 (crcN (bs.take k) : Nat)
def HalfRel (m : Nat) (i n : Value) : Prop := (i = .int .i64 0 ∧ n = .int .u32 (m : Nat)) ∨ (i = .int .i64 1 ∧ n = .int .u32 (half m : Nat)) ∨ (i = .int .i64 2 ∧ n = .int .u32 (half (half m) : Nat))

theorem half_and (m : Nat) (h : m < 4294967296) : bits .and .u32 (m : Int) 15 = ((m &&& 15 : Nat) : Int) := u32_and_nat m 15 h (by omega)
theorem half_small (m : Nat) : m &&& 15 < 16 := Nat.lt_of_le_of_lt Nat.and_le_right (by omega)
theorem half_xor (m : Nat) (h : m < 4294967296) : bits .xor .u32 ((tab (m &&& 15) : Nat) : Int) ((m : Int) / 16) = ((half m : Nat) : Int) := by
  have := u32_xor_nat (tab (m &&& 15)) (m / 16) (halves_lt _) (by omega)
  simpa [half] using this
theorem crc_xor (m : Nat) (h : m < 4294967296) (c : UInt8) : bits .xor .u32 (m : Int) ((c.toNat : Int) % 4294967296) = ((m ^^^ c.toNat : Nat) : Int) := by
  have hc := c.toNat_lt
  rw [show (c.toNat : Int) % 4294967296 = ((c.toNat : Nat) : Int) by omega]
  exact u32_xor_nat m c.toNat h (by omega)

theorem crc_not (n : Nat) (h : n < 4294967296) : bits .xor .u32 IntKind.u32.max (n : Int) = ((4294967295 - n : Nat) : Int) := by
  have h1 := u32_xor_nat 4294967295 n (by omega) h
  have h2 : 4294967295 ^^^ n = 4294967295 - n := by
    have h3 : (BitVec.allOnes 32 ^^^ BitVec.ofNat 32 n).toNat = 2 ^ 32 - 1 - (BitVec.ofNat 32 n).toNat := by
      rw [BitVec.allOnes_xor, BitVec.toNat_not]
    rw [BitVec.toNat_xor, BitVec.toNat_allOnes, BitVec.toNat_ofNat, Nat.mod_eq_of_lt (by omega)] at h3
    exact h3
  rw [← h2]
  exact h1

set_option maxRecDepth 100000 in
theorem Sum_row {w : World} {bs : List UInt8} {b off c : Nat} (ht : Table w) (hc : ∀ j u, (bs.map fun b => Value.int .u8 b.toNat)[j]? = some u → w.cell? ⟨b, off + j, none⟩ = some u) (hb : bs.length ≤ 1099511627776) :
    Calls Tryd.prog 9 #[.slice (some ⟨b, off, none⟩) bs.length c] w (fun e w' => e = .returned (.int .u32 (crcV bs : Nat)) ∧ w = w') := by
  go_enter Tryd.func9, Tryd.ntmps9
  go_wp2
  go_loop [8, 3] (fun i n => SumRel bs i n) (fun i _ => bs.length - (intOf i).toNat)
  case atStart => exact ⟨0, Nat.zero_le _, rfl, rfl⟩
  case round =>
    obtain ⟨k, hk, rfl, rfl⟩ := hrel
    by_cases hlt : k < bs.length
    · have hck : w.cell? ⟨b, off + k, none⟩ = some (.int .u8 (bs[k].toNat : Int)) := hc k _ (by simp [hlt])
      clear hc
      have Ht := SL.hid ht
      clear ht
      have hx := crc_xor (crcN (bs.take k)) (crcN_lt _) bs[k]
      have hm := xor_lt (crcN_lt (bs.take k)) bs[k]
      have Hs := SL.hid (show crcN (bs.take (k + 1)) = half (half (crcN (bs.take k) ^^^ bs[k].toNat)) by rw [List.take_succ_eq_append_getElem hlt, crcN_snoc]; rfl)
      go_wp2
      generalize crcN (bs.take k) ^^^ bs[k].toNat = m at *
      clear hx
      go_loop [16, 3] (fun i n => HalfRel m i n) (fun i _ => 2 - (intOf i).toNat)
      case atStart => exact .inl ⟨rfl, rfl⟩
      case round =>
        rcases hrel with ⟨rfl, rfl⟩ | ⟨rfl, rfl⟩ | ⟨rfl, rfl⟩
        · have h1 := half_and m hm
          have h2 := half_small m
          have h3 := half_xor m hm
          have h4 := Ht.out _ h2
          go_wp2
          go_round
          case rel => exact .inr (.inl ⟨rfl, rfl⟩)
          case measure => simp [intOf]
        · have hm2 := half_lt hm
          have h1 := half_and _ hm2
          have h2 := half_small (half m)
          have h3 := half_xor _ hm2
          have h4 := Ht.out _ h2
          go_wp2
          go_round
          case rel => exact .inr (.inr ⟨rfl, rfl⟩)
          case measure => simp [intOf]
        · go_wp2
          go_round
          case rel => exact ⟨k + 1, hlt, by simp, by rw [Hs.out]⟩
          case measure => simp [intOf]; omega
    · have E1 := SL.hid (show k = bs.length by omega)
      go_wp2
      go_ret
      have hk := E1.out
      subst hk
      rw [List.take_length]
      exact ⟨by unfold crcV; rw [← crc_not _ (crcN_lt bs)]; rfl, rfl⟩

theorem Sum_nil (c : Nat) (w : World) : Calls Tryd.prog 9 #[.slice none 0 c] w (fun e w' => e = .returned (.int .u32 0) ∧ w = w') := by
  go_enter Tryd.func9, Tryd.ntmps9
  go_wp2
  go_loop [8, 3] (fun i n => i = .int .i64 0 ∧ n = .int .u32 4294967295) (fun _ _ => 0)
  case atStart => exact ⟨rfl, rfl⟩
  case round =>
    obtain ⟨rfl, rfl⟩ := hrel
    go_wp2
    go_ret
    exact ⟨rfl, rfl⟩

theorem Sum_empty (ad : Addr) (c : Nat) (w : World) : Calls Tryd.prog 9 #[.slice (some ad) 0 c] w (fun e w' => e = .returned (.int .u32 0) ∧ w = w') := by
  go_enter Tryd.func9, Tryd.ntmps9
  go_wp2
  go_loop [8, 3] (fun i n => i = .int .i64 0 ∧ n = .int .u32 4294967295) (fun _ _ => 0)
  case atStart => exact ⟨rfl, rfl⟩
  case round =>
    obtain ⟨rfl, rfl⟩ := hrel
    go_wp2
    go_ret
    exact ⟨rfl, rfl⟩

theorem Sum_any {w : World} {bs : List UInt8} {ao : Option Addr} {c : Nat} (ht : Table w) (hr : reads (.slice ao bs.length c) bs.length (bs.map fun b => Value.int .u8 b.toNat) w) (hb : bs.length ≤ 1099511627776) :
    Calls Tryd.prog 9 #[.slice ao bs.length c] w (fun e w' => e = .returned (.int .u32 (crcV bs : Nat)) ∧ w = w') := by
  rcases Nat.eq_zero_or_pos bs.length with h0 | h0
  · obtain rfl := List.eq_nil_of_length_eq_zero h0
    cases ao with
    | none => exact Sum_nil c w
    | some ad =>
      exact Sum_empty ad c w
  · obtain ⟨b, off, rfl, hc⟩ := reads_form hr h0 (by simpa using h0)
    exact Sum_row ht hc hb
end Go.Proofs.YtpchnmcofkffiaaDoor
