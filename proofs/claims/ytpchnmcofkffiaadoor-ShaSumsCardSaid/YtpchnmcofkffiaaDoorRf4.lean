/-
  The first primes, as the document's own hash finds them.
-/
import Derived.Test.YtpchnmcofkffiaaDoorRf3
namespace Go.Proofs.YtpchnmcofkffiaaDoor
open Go.RowKit Go.SL

def primesAt : Nat → List Nat
  | 0 => []
  | j + 1 => if (primesAt j).all (fun p => n_mod (2 + j) p) then primesAt j ++ [2 + j] else primesAt j
where n_mod (n p : Nat) : Bool := n % p != 0
theorem primesAt_succ (j : Nat) : primesAt (j + 1) = if (primesAt j).all (fun p => primesAt.n_mod (2 + j) p) then primesAt j ++ [2 + j] else primesAt j := rfl
theorem primesAt_pos : ∀ j, ∀ p ∈ primesAt j, 0 < p ∧ p ≤ 1 + j
  | 0, p, h => by cases h
  | j + 1, p, h => by
    rw [primesAt_succ] at h
    split at h
    · simp only [List.mem_append, List.mem_singleton] at h
      rcases h with h | rfl
      · have := primesAt_pos j p h; omega
      · omega
    · have := primesAt_pos j p h; omega
theorem primesAt_mono : ∀ j, (primesAt j).length ≤ (primesAt (j + 1)).length := fun j => by
  rw [primesAt_succ]
  split
  · simp
  · exact Nat.le_refl _
theorem primesAt_le (j : Nat) : ∀ d, (primesAt j).length ≤ (primesAt (j + d)).length
  | 0 => Nat.le_refl _
  | d + 1 => Nat.le_trans (primesAt_le j d) (primesAt_mono _)
def primes64 : List Nat := [2, 3, 5, 7, 11, 13, 17, 19, 23, 29, 31, 37, 41, 43, 47, 53, 59, 61, 67, 71, 73, 79, 83, 89, 97, 101, 103, 107, 109, 113, 127, 131, 137, 139, 149, 151, 157, 163, 167, 173, 179, 181, 191, 193, 197, 199, 211, 223, 227, 229, 233, 239, 241, 251, 257, 263, 269, 271, 277, 281, 283, 293, 307, 311]
set_option maxRecDepth 100000 in
theorem primes_310 : primesAt 310 = primes64 := by decide +kernel
set_option maxRecDepth 100000 in
theorem primes_309 : (primesAt 309).length = 63 := by decide +kernel
theorem primes_few {j : Nat} (h : j < 310) : (primesAt j).length < 64 := by
  have := primesAt_le j (309 - j)
  rw [show j + (309 - j) = 309 by omega, primes_309] at this
  omega

theorem info64 : elemInfo Tryd.prog 40 = some (some 1, 1, 8) := by kernel_rfl

def PrRel (l : List HProp) (s n : Value) (wr : World) : Prop :=
  ∃ (j : Nat) (ao : Option Addr) (c : Nat), j ≤ 310 ∧ s = .slice ao (primesAt j).length c ∧ n = .int .u64 ((2 + j : Nat) : Int) ∧ Ent (row 40 1 (.slice ao (primesAt j).length c) (primesAt j).length ((primesAt j).map u64v) :: l) wr
def IsRel (ps : List Nat) (n : Nat) (L : List HProp) (b i : Value) (wr : World) : Prop :=
  ∃ (k : Nat) (f : Bool), k ≤ ps.length ∧ i = .int .i64 k ∧ b = .bool f ∧ f = (ps.take k).all (fun p => primesAt.n_mod n p) ∧ Ent L wr

set_option maxRecDepth 100000 in
set_option maxHeartbeats 1000000 in
theorem Primes_64 {l : List HProp} {w : World} (hE : Ent l w) :
    Calls Tryd.prog 22 #[.int .i64 64] w (Ret fun v w' => ∃ ao c, v = .slice ao 64 c ∧ Ent (row 40 1 (.slice ao 64 c) 64 (primes64.map u64v) :: l) w') := by
  go_enter Tryd.func22, Tryd.ntmps22
  go_wp2_with (first | go_skip)
  go_loopw [3, 4] (fun s n wr => PrRel l s n wr) (fun _ n _ => 312 - (intOf n).toNat)
  case atStart => exact ⟨0, none, 0, Nat.zero_le _, rfl, rfl, hE.nil _ _⟩
  case round =>
    clear hE
    obtain ⟨j, ao, c, hj, rfl, rfl, hE⟩ := hrel
    by_cases hlt : j < 310
    · have hfew := primes_few hlt
      have hpos := primesAt_pos j
      have hsucc := primesAt_succ j
      have hfi : ((primesAt j).length : Int) < 64 := by omega
      have Hpos := SL.hid hpos
      have Hsucc := SL.hid hsucc
      clear hpos hsucc
      have hn1 : (((2 + j : Nat) : Int)) + 1 = ((2 + (j + 1) : Nat) : Int) := by omega
      have hnl : 2 + j < 1000 := by omega
      have Hn1 := SL.hid hn1
      have hnj : 2 + j ≤ 311 := by omega
      generalize hps : primesAt j = ps at *
      obtain ⟨n, hn⟩ : ∃ n, n = 2 + j := ⟨_, rfl⟩
      rw [← hn] at Hn1 Hsucc hnl hnj ⊢
      have Hps := SL.hid hps
      have Hn := SL.hid hn
      clear hps hn1 hn
      go_wp2_with (first | go_skip)
      go_loopw [5, 6] (fun b i wr => IsRel ps n (row 40 1 (.slice ao ps.length c) ps.length (ps.map u64v) :: l) b i wr) (fun _ i _ => ps.length - (intOf i).toNat)
      case atStart => exact ⟨0, true, Nat.zero_le _, rfl, rfl, rfl, hE⟩
      case round =>
        clear hE
        obtain ⟨k, f, hk, rfl, rfl, hf, hE⟩ := hrel
        have Hf := SL.hid hf
        clear hf
        by_cases hk2 : k < ps.length
        · have ik : (k : Int) < (ps.length : Int) := by omega
          have hnext : (ps.take (k + 1)).all (fun p => primesAt.n_mod n p) = (f && primesAt.n_mod n (ps.getD k 0)) := by
            rw [List.take_add_one, List.all_append, ← Hf.out, List.getD_eq_getElem?_getD, List.getElem?_eq_getElem hk2]; simp
          obtain ⟨g, rfl, _, _⟩ := hE.rowIs 0 rfl (by omega)
          have c0 := hE.rowCell 0 rfl (j := k) (u := .int .u64 ((ps.getD k 0 : Nat) : Int)) (by simp [hk2, u64v, List.getD_eq_getElem?_getD])
          have hp0 : 0 < ps.getD k 0 ∧ ps.getD k 0 ≤ 1 + j := by
            rw [List.getD_eq_getElem?_getD, List.getElem?_eq_getElem hk2]
            exact Hpos.out _ (List.getElem_mem hk2)
          generalize ps.getD k 0 = p at *
          have hp1 : (p : Int) ≠ 0 := by omega
          have hp2 : ((p : Int) == 0) = false := by simpa using hp1
          have hmod : ((n : Int)).tmod (p : Int) = ((n % p : Nat) : Int) := by simp [Int.tmod_eq_emod_of_nonneg]
          have hmod2 : ((n : Int)) % (p : Int) = ((n % p : Nat) : Int) := by simp
          have hnm : primesAt.n_mod n p = (n % p != 0) := rfl
          have hlm : n % p < 1000 := Nat.lt_of_le_of_lt (Nat.mod_le _ _) hnl
          generalize n % p = m at *
          have hmb : ((m : Int) != 0) = (m != 0) := by rw [Bool.eq_iff_iff]; simp
          have Hmb := SL.hid hmb
          clear hmb
          have hw : IntKind.u64.wrap (m : Int) = (m : Int) := by rw [IntKind.wrap_u64]; omega
          have Hnext := SL.hid hnext
          have Hnm := SL.hid hnm
          clear hnext hnm
          cases f with
          | false =>
            go_wp2_with (first | go_skip)
            go_roundw
            case rel => exact ⟨k + 1, false, hk2, by simp, rfl, by rw [Hnext.out]; rfl, hE⟩
            case measure => simp [intOf]; omega
          | true =>
            go_wp2_with (first | go_skip)
            go_roundw
            case rel => exact ⟨k + 1, m != 0, hk2, by simp, by rw [Hmb.out], by rw [Hnext.out, Hnm.out]; rfl, hE⟩
            case measure => simp [intOf]; omega
        · obtain rfl : k = ps.length := by omega
          have hall : f = ps.all (fun p => primesAt.n_mod n p) := by rw [Hf.out, List.take_length]
          rw [← hall] at Hsucc
          clear hall hk hk2
          have ik : ¬ (ps.length : Int) < (ps.length : Int) := by omega
          cases f with
          | false =>
            have Hs : RowKit.Hid (primesAt (j + 1) = ps) := SL.hid Hsucc.out
            go_wp2_with (first | go_skip)
            go_roundw
            case rel => exact ⟨j + 1, ao, c, hlt, by rw [Hs.out], by rw [← Hn1.out], by rw [Hs.out]; exact hE⟩
            case measure => simp [intOf]; omega
          | true =>
            have Hs : RowKit.Hid (primesAt (j + 1) = ps ++ [n]) := SL.hid Hsucc.out
            go_wp2_with (first
              | go_skip
              | ((with_reducible (show Go.wpList _ _ _ (Go.Oper.mk _ (.call _) _ _ _ _ :: _) _ _)); refine wpl_appendG (hE.alloc _) 1 rfl rfl rfl rfl rfl Tryd.underlying52 info64 (by decide) (m := 1) (news := [.int .u64 (n : Int)]) (reads_pt (hE.alloc _) 0 rfl (off := 0) (fun j u hu => by simpa using hu)) rfl (by simp [Value.oneCell']) (by omega) (by omega) ?_; clear hE; intro ao2 c2 w2 hE; simp only [List.set_cons_succ, List.set_cons_zero] at hE))
            go_roundw
            case rel => exact ⟨j + 1, ao2, c2, hlt, by rw [Hs.out, List.length_append]; rfl, by rw [← Hn1.out], by rw [Hs.out, List.length_append, List.map_append]; exact hE.tail⟩
            case measure => simp [intOf]; omega
    · obtain rfl : j = 310 := by omega
      have hl64 : (primesAt 310).length = 64 := by rw [primes_310]; rfl
      rw [hl64, primes_310] at hE
      rw [hl64]
      clear hl64 hlt hj
      go_wp2_with (first | go_skip)
      go_ret
      exact ⟨_, rfl, ao, c, rfl, hE⟩
end Go.Proofs.YtpchnmcofkffiaaDoor
