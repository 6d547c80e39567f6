/-
  The stage's theorem of the checksum: the walk of its function, at any bytes, place and change.
-/
import Derived.Test.YtpchnmcofkffiaaDoorCr6
import Derived.Test.YtpchnmcofkffiaaDoorSlf
import Derived.Deep.RegionLaw
namespace Go.Proofs.YtpchnmcofkffiaaDoor
open Go.RowKit Go.SL

theorem le4_cells (s : Nat) (h : s < 4294967296) : bvals (le4 s) = [.int .u8 ((s : Int) % 256), .int .u8 ((s : Int) / 256 % 256), .int .u8 ((s : Int) / 65536 % 256), .int .u8 ((s : Int) / 16777216)] := by
  simp only [bvals, le4, List.map_cons, List.map_nil, bval, UInt8.toNat_ofNat', Nat.reducePow]
  rw [show ((s / 16777216 % 256 : Nat) : Int) = (s : Int) / 16777216 by omega]
  congr 1

theorem SumB {w : World} {bs : List UInt8} {ao : Option Addr} {c : Nat} (ht : Table w) (hr : reads (.slice ao bs.length c) bs.length (bvals bs) w) (hb : bs.length ≤ 1099511627776) :
    Calls Tryd.prog 9 #[.slice ao bs.length c] w (fun e w' => e = .returned (.int .u32 (crcV bs : Nat)) ∧ w = w') := Sum_any ht hr hb

theorem Sum_all {l : List HProp} {w : World} {bs : List UInt8} {ao : Option Addr} {c : Nat} (ht : Knows l Table) (hE : Ent (rowB ao c (bs ++ le4 (crcV bs)) :: l) w) (hb : bs.length ≤ 3000) :
    Calls Tryd.prog 9 #[.slice ao (bs.length + (le4 (crcV bs)).length) c] w (fun e w' => e = .returned (.int .u32 1214729159) ∧ w = w') := by
  have h := SumB (ht _ hE.tail) (reads_row hE 0 rfl) (by rw [List.length_append]; simp [le4]; omega)
  rw [residue, List.length_append] at h
  exact h

theorem flip_val (ot : List UInt8) (q r : Nat) (hq : q < ot.length) (hr : r < 8) : Value.int .u8 (bits .xor .u8 (ot[q].toNat : Int) (2 ^ r % 256)) = bval (ot.getD q 0 ^^^ UInt8.ofNat (2 ^ r)) := by
  have h1 : (2 : Int) ^ r % 256 = ((2 ^ r : Nat) : Int) := by
    have : ∀ r, r < 8 → (2 : Int) ^ r % 256 = ((2 ^ r : Nat) : Int) := by decide
    exact this r hr
  have h2 : 2 ^ r < 256 := by
    have : ∀ r, r < 8 → 2 ^ r < 256 := by decide
    exact this r hr
  have h3 : (UInt8.ofNat (2 ^ r)).toNat = 2 ^ r := by simp [Nat.mod_eq_of_lt h2]
  have h4 : ot.getD q 0 = ot[q] := by simp [List.getD_eq_getElem?_getD, hq]
  have h5 := ot[q].toNat_lt
  rw [h1, u8_xor_nat _ _ (by omega) h2, h4]
  unfold bval
  rw [UInt8.toNat_xor, h3]

theorem Ent.asFlip {l : List HProp} {w : World} {ot : List UInt8} {q r c g k n : Nat} (hE : Ent (row 5 1 (.slice (some ⟨g, 0, none⟩) n c) n ((bvals ot).set q (bval (ot.getD q 0 ^^^ UInt8.ofNat (2 ^ r)))) :: l) w) (hf : flip1 ot k = ot.set q (ot.getD q 0 ^^^ UInt8.ofNat (2 ^ r))) (hn : n = ot.length := by rfl) :
    Ent (rowB (some ⟨g, 0, none⟩) c (flip1 ot k) :: l) w := by
  subst hn
  unfold rowB
  rw [hf, List.length_set]
  unfold bvals
  rw [List.map_set]
  exact hE

def TellRel (bs : List UInt8) (s : Nat) (l : List HProp) (ao : Option Addr) (c : Nat) (i : Value) (wr : World) : Prop :=
  ∃ (k : Nat) (ot : List UInt8), k ≤ 32 ∧ i = .int .i64 k ∧ ot.length = bs.length ∧ Near s ot bs ∧ Ent (rowB ao c ot :: l) wr

set_option maxRecDepth 100000 in
set_option maxHeartbeats 4000000 in
theorem CrcTells_some {l : List HProp} {w : World} {bs : List UInt8} {ao : Option Addr} {c : Nat} (place change : Nat) (hbp : 0 < bs.length) (hpl : place < 65536) (hch : change < 4294967296) (ht : Knows l Table) (hk : Knows l (reads (.slice ao bs.length c) bs.length (bvals bs))) (hE : Ent l w) :
    Calls Tryd.prog 4 #[.slice ao bs.length c, .int .u16 place, .int .u32 change] w (Ret fun v w' => v = .bool true ∧ Ent l w') := by
  cases h3 : decide ((3000 : Int) < (bs.length : Int)) with
  | true =>
    go_enter Tryd.func4, Tryd.ntmps4
    go_wp2_with ((go_at_call 7; have H := wakes2_any ht hE; refine H.mono ?_; clear H; rintro e w2 ⟨v, rfl, rfl, hE⟩))
    go_ret
    exact ⟨_, rfl, rfl, hE⟩
  | false =>
    have hb : bs.length ≤ 3000 := by have := of_decide_eq_false h3; omega
    have hs : crcV bs < 4294967296 := by unfold crcV; omega
    have Hres := SL.hid (residue bs)
    have Hl4 := SL.hid (le4_cells (crcV bs) hs)
    go_enter Tryd.func4, Tryd.ntmps4
    go_wp2_with (first
      | go_skip
      | (go_at_call 9; have H := Sum_all (l := l) (bs := bs) ht (hE2.erase 1) hb; refine H.mono ?_; clear H; rintro e w2 ⟨rfl, rfl⟩; have hE := (hE2.erase 1).tail; clear hE2)
      | (go_at_call 9; have H := SumB (ht _ hE) (hk _ hE) (by omega); with_reducible (refine H.mono ?_); clear H; rintro e w2 ⟨rfl, rfl⟩)
      | (at_builtin; refine wpl_appendB (hE.nil 5 1) 0 (bs := []) rfl rfl rfl rfl rfl (ys := bs) (hk _ hE) (by simp; omega) ?_; intro ao1 c1 w1 hE1; simp only [List.nil_append, List.set_cons_zero] at hE1; clear hE)
      | (at_builtin; refine wpl_appendB (hE1.alloc _) 1 (bs := bs) rfl rfl rfl rfl rfl (ys := le4 (crcV bs)) (reads_pt (hE1.alloc _) 0 rfl (off := 0) (fun j u hu => by rw [Hl4.out] at hu; simpa using hu)) (by simp [le4]; omega) ?_; intro ao2 c2 w2 hE2; simp only [List.set_cons_zero, List.set_cons_succ] at hE2; replace hE2 := hE2.front 1 rfl; clear hE1))
    clear Hres Hl4 hs
    go_loopw [11] (fun i wr => TellRel bs (place % (8 * bs.length)) l ao1 c1 i wr) (fun i _ => 32 - (intOf i).toNat)
    case atStart => exact ⟨0, bs, by omega, rfl, rfl, Near.refl _ _, hE1⟩
    case round =>
      obtain ⟨k, ot, hk32, rfl, hlen, hnear, hE⟩ := hrel
      by_cases hgo : k < 32 ∧ 0 < bs.length
      · obtain ⟨hlt, hpos⟩ := hgo
        have htm : (place : Int).tmod (8 * (bs.length : Int)) = ((place % (8 * bs.length) : Nat) : Int) := by
          rw [Int.tmod_eq_emod_of_nonneg (Int.natCast_nonneg _)]
          push_cast
          rfl
        have hsl : place % (8 * bs.length) < 8 * bs.length := Nat.mod_lt _ (by omega)
        generalize place % (8 * bs.length) = s at *
        cases hin : decide (((s : Int) + (k : Int)) < 8 * (bs.length : Int)) with
        | false =>
          go_wp2_with (first | go_skip)
          go_roundw
          case rel => exact ⟨k + 1, ot, hlt, by simp, hlen, hnear, hE⟩
          case measure => simp [intOf]; omega
        | true =>
          cases hbit : (bits .and .u32 ((change : Int) / 2 ^ k) 1 == 1) with
          | false =>
            go_wp2_with (first | go_skip)
            go_roundw
            case rel => exact ⟨k + 1, ot, hlt, by simp, hlen, hnear, hE⟩
            case measure => simp [intOf]; omega
          | true =>
            have hin2 : s + k < 8 * bs.length := by have := of_decide_eq_true hin; omega
            have hq : ((s : Int) + (k : Int)).tdiv 8 = (((s + k) / 8 : Nat) : Int) := by
              rw [Int.tdiv_eq_ediv_of_nonneg (by omega)]
              omega
            have hr : ((s : Int) + (k : Int)).tmod 8 = (((s + k) % 8 : Nat) : Int) := by
              rw [Int.tmod_eq_emod_of_nonneg (by omega)]
              omega
            have hq2 : ((s : Int) + (k : Int)) / 8 = (((s + k) / 8 : Nat) : Int) := by omega
            have hr2 : ((s : Int) + (k : Int)) % 8 = (((s + k) % 8 : Nat) : Int) := by omega
            obtain ⟨g, cap, cur, hv, hn1, hm1, hs1, ht1, hE2⟩ := hE.fromRow 0 rfl (by omega)
            have hq8 : (s + k) / 8 < bs.length := by omega
            have hr8 : (s + k) % 8 < 8 := by omega
            have hcell : wr.cell? ⟨g, (s + k) / 8, none⟩ = some (bval (ot.getD ((s + k) / 8) 0)) := by
              rw [hE2.cell 0 rfl]
              have h5 : (cur.toList.take (ot.length * 1))[(s + k) / 8]? = some (bval (ot.getD ((s + k) / 8) 0)) := by
                rw [ht1]
                simp [bvals, List.getD_eq_getElem?_getD, hlen, hq8]
              rw [List.getElem?_take_of_lt (by omega)] at h5
              simpa using h5
            have hfz : wr.frozen? ⟨g, (s + k) / 8, none⟩ = false := hE2.frozen 0 rfl _
            cases hv
            unfold bval at hcell
            have hnear2 := SL.hid (hnear.flip (k := s + k) (by omega) (by omega) (by omega))
            have hf : flip1 ot (s + k) = ot.set ((s + k) / 8) (ot.getD ((s + k) / 8) 0 ^^^ UInt8.ofNat (2 ^ ((s + k) % 8))) := rfl
            generalize (s + k) / 8 = q at *
            generalize (s + k) % 8 = r at *
            have Hf := SL.hid hf
            clear hf
            have hqo : q < ot.length := by omega
            have Hv := SL.hid (flip_val ot q r hqo hr8)
            have hwq : IntKind.i64.wrap ((q : Nat) : Int) = (q : Int) := by
              simp only [IntKind.wrap, IntKind.bits, IntKind.signed]
              simp
              omega
            go_wp2_with (first | go_skip)
            go_region_law (fail)
            all_goals
              have hE3 := (hE2.setCell 0 rfl q (bval (ot.getD q 0 ^^^ UInt8.ofNat (2 ^ r)))).drew
              have hE4 := hE3.backRow 0 rfl hn1 hm1 hs1 ht1
              replace hE4 := Ent.asFlip hE4 Hf.out
              clear hE3 hE2 hE
              go_wp2
              go_roundw
              case rel =>
                have e := Hv.out
                rw [e]
                exact ⟨k + 1, flip1 ot (s + k), hlt, by simp, by rw [flip1_length]; exact hlen, hnear2.out, hE4⟩
              case measure => simp [intOf]; omega
      · have hgo2 : k = 32 ∨ bs.length = 0 := by omega
        have Ht := SL.hid hnear.tells
        have hlb : ot.length ≤ 3000 := by omega
        rcases hgo2 with rfl | h0
        · have hED := hE.drew
          have hS1 : Calls Tryd.prog 9 #[.slice ao1 bs.length c1] wr.drew (fun e w' => e = .returned (.int .u32 (crcV ot : Nat)) ∧ wr.drew = w') := by
            have h := SumB (ht _ hED.tail) (reads_row hED 0 rfl) (by omega)
            rw [hlen] at h
            exact h
          have hc1 : (convert 22 9 (.slice ao1 bs.length c1)).run Tryd.prog wr.drew = .ok (.string ⟨ot.toArray⟩) wr.drew := by
            have h := bytesToString_reads (P := Tryd.prog) Tryd.underlying22 Tryd.underlying5 Tryd.underlying9 (reads_row hED 0 rfl) rfl
            rw [hlen] at h
            exact h
          have hc2 : (convert 22 9 (.slice ao bs.length c)).run Tryd.prog wr.drew = .ok (.string ⟨bs.toArray⟩) wr.drew :=
            bytesToString_reads (P := Tryd.prog) Tryd.underlying22 Tryd.underlying5 Tryd.underlying9 (hk _ hED.tail) rfl
          go_wp2_with (first | go_skip)
          have hT : ((crcV ot : Int) == (crcV bs : Int)) = (ot == bs) := by rw [← Ht.out, Bool.eq_iff_iff]; simp; omega
          have hWk := wakes2_any ht hED.tail
          go_region_law (first | (go_simp; (refine hS1.mono ?_); (rintro e w2 ⟨rfl, rfl⟩)) | (go_simp; (refine hWk.mono ?_); (rintro e w2 ⟨v, rfl, rfl, hE9⟩)))
          all_goals
            go_wp2
            go_ret
            exact ⟨_, rfl, rfl, hE9⟩
        · exact absurd h0 (by omega)

theorem reads_zero (ao : Option Addr) (c : Nat) (w : World) : reads (.slice ao 0 c) 0 [] w := ⟨ao, c, rfl, fun _ => ⟨rfl, rfl⟩, fun _ _ j u h => by simp at h⟩
theorem SumE {w : World} {ao : Option Addr} {c : Nat} (ht : Table w) :
    Calls Tryd.prog 9 #[.slice ao 0 c] w (fun e w' => e = .returned (.int .u32 (crcV [] : Nat)) ∧ w = w') := SumB (bs := []) ht (reads_zero ao c w) (by decide)

set_option maxRecDepth 100000 in
set_option maxHeartbeats 4000000 in
theorem CrcTells_none {l : List HProp} {w : World} {ao : Option Addr} {c : Nat} (place change : Nat) (ht : Knows l Table) (hk : Knows l (reads (.slice ao 0 c) 0 (bvals []))) (hE : Ent l w) :
    Calls Tryd.prog 4 #[.slice ao 0 c, .int .u16 place, .int .u32 change] w (Ret fun v w' => v = .bool true ∧ Ent l w') := by
  have hs : crcV [] < 4294967296 := by unfold crcV; omega
  have Hres := SL.hid (residue [])
  have Hl4 := SL.hid (le4_cells (crcV []) hs)
  go_enter Tryd.func4, Tryd.ntmps4
  go_wp2_with (first
    | go_skip
    | (go_at_call 9; have H := Sum_all (l := l) (bs := []) ht (hE2.erase 1) (by decide); refine H.mono ?_; clear H; rintro e w2 ⟨rfl, rfl⟩; have hE := (hE2.erase 1).tail; clear hE2)
    | (go_at_call 9; have H := SumE (ao := ao) (c := c) (ht _ hE); with_reducible (refine H.mono ?_); clear H; rintro e w2 ⟨rfl, rfl⟩)
    | (at_builtin; refine wpl_appendB (hE.nil 5 1) 0 (bs := []) rfl rfl rfl rfl rfl (ys := []) (reads_zero _ _ _) (by simp) ?_; intro ao1 c1 w1 hE1; simp only [List.nil_append, List.set_cons_zero] at hE1; clear hE)
    | (at_builtin; refine wpl_appendB (hE1.alloc _) 1 (bs := []) rfl rfl rfl rfl rfl (ys := le4 (crcV [])) (reads_pt (hE1.alloc _) 0 rfl (off := 0) (fun j u hu => by rw [Hl4.out] at hu; simpa using hu)) (by simp [le4]) ?_; intro ao2 c2 w2 hE2; simp only [List.set_cons_zero, List.set_cons_succ] at hE2; replace hE2 := hE2.front 1 rfl; clear hE1))
  go_loopw [11] (fun i wr => i = .int .i64 0 ∧ Ent (rowB ao1 c1 [] :: l) wr) (fun i _ => 0)
  case atStart => exact ⟨rfl, hE1⟩
  case round =>
    obtain ⟨rfl, hE⟩ := hrel
    have hED := hE.drew
    have hS1 : Calls Tryd.prog 9 #[.slice ao1 0 c1] wr.drew (fun e w' => e = .returned (.int .u32 (crcV [] : Nat)) ∧ wr.drew = w') := SumE (ht _ hED.tail)
    have hc1 : (convert 22 9 (.slice ao1 0 c1)).run Tryd.prog wr.drew = .ok (.string ⟨#[]⟩) wr.drew :=
      bytesToString_reads (bs := []) (P := Tryd.prog) Tryd.underlying22 Tryd.underlying5 Tryd.underlying9 (reads_zero _ _ _) rfl
    have hc2 : (convert 22 9 (.slice ao 0 c)).run Tryd.prog wr.drew = .ok (.string ⟨#[]⟩) wr.drew :=
      bytesToString_reads (bs := []) (P := Tryd.prog) Tryd.underlying22 Tryd.underlying5 Tryd.underlying9 (reads_zero _ _ _) rfl
    go_wp2_with (first | go_skip)
    have hWk := wakes2_any ht hED.tail
    go_region_law (first | (go_simp; (refine hS1.mono ?_); (rintro e w2 ⟨rfl, rfl⟩)) | (go_simp; (refine hWk.mono ?_); (rintro e w2 ⟨v, rfl, rfl, hE9⟩)))
    all_goals
      go_wp2
      go_ret
      exact ⟨_, rfl, rfl, hE9⟩

theorem CrcTells_any {l : List HProp} {w : World} {bs : List UInt8} {ao : Option Addr} {c : Nat} (place change : Nat) (hpl : place < 65536) (hch : change < 4294967296) (ht : Knows l Table) (hk : Knows l (reads (.slice ao bs.length c) bs.length (bs.map fun b => Value.int .u8 b.toNat))) (hE : Ent l w) :
    Calls Tryd.prog 4 #[.slice ao bs.length c, .int .u16 place, .int .u32 change] w (Ret fun v w' => v = .bool true ∧ Ent l w') := by
  rcases Nat.eq_zero_or_pos bs.length with h0 | h0
  · obtain rfl : bs = [] := List.eq_nil_of_length_eq_zero h0
    exact CrcTells_none place change ht hk hE
  · exact CrcTells_some place change h0 hpl hch ht hk hE

theorem CrcTells_int {l : List HProp} {w : World} {bs : List UInt8} {ao : Option Addr} {c : Nat} {place change : Int} (hpl : 0 ≤ place ∧ place ≤ 65535) (hch : 0 ≤ change ∧ change ≤ 4294967295) (ht : Knows l Table) (hk : Knows l (reads (.slice ao bs.length c) bs.length (bs.map fun b => Value.int .u8 b.toNat))) (hE : Ent l w) :
    Calls Tryd.prog 4 #[.slice ao bs.length c, .int .u16 place, .int .u32 change] w (Ret fun v w' => v = .bool true ∧ Ent l w') := by
  obtain ⟨p, rfl⟩ := Int.eq_ofNat_of_zero_le hpl.1
  obtain ⟨q, rfl⟩ := Int.eq_ofNat_of_zero_le hch.1
  exact CrcTells_any p q (by omega) (by omega) ht hk hE
end Go.Proofs.YtpchnmcofkffiaaDoor
