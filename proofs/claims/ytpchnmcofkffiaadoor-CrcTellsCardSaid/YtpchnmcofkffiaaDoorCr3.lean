/-
  The law of the checksum of any bytes: the walk of its function, where the table's cells hold what the program's text lays.
-/
import Derived.Test.YtpchnmcofkffiaaDoorCr2
import Derived.Test.YtpchnmcofkffiaaDoorBt
import Derived.Lib.SlBytesConst
namespace Go.Proofs.YtpchnmcofkffiaaDoor
open Go.RowKit Go.SL

theorem alloc_at {n : Nat} {w : World} {l : List HProp} (hn : n = w.heap.size) (hE : Ent l w) (o : Obj) : Ent (pt n o :: l) (w.alloc o) := hn ▸ hE.alloc o

theorem Ok_any {w : World} {bs : List UInt8} {ao : Option Addr} {c : Nat} (n : Int) (ht : Table w) (hr : reads (.slice ao bs.length c) bs.length (bs.map fun b => Value.int .u8 b.toNat) w) (hb : bs.length ≤ 1099511627776) :
    Calls Tryd.prog 10 #[.slice ao bs.length c, .int .u32 n] w (fun e w' => e = .returned (.bool ((crcV bs : Int) == n)) ∧ w = w') := by
  go_enter Tryd.func10, Tryd.ntmps10
  go_wp2_with ((go_at_call 9; refine (Sum_any ht hr hb).mono ?_; rintro e w2 ⟨rfl, rfl⟩))
  go_ret
  exact ⟨rfl, rfl⟩

def digits : List UInt8 := [49, 50, 51, 52, 53, 54, 55, 56, 57]
theorem digits_sum : crcV digits = 3808858755 := by decide
theorem none_sum : crcV [] = 0 := by decide
theorem digits_cells : digits.map (fun b => Value.int .u8 b.toNat) = [.int .u8 49, .int .u8 50, .int .u8 51, .int .u8 52, .int .u8 53, .int .u8 54, .int .u8 55, .int .u8 56, .int .u8 57] := rfl

theorem Sum_digits {w : World} {b c : Nat} {fz : Nat × Nat} {l : List HProp} (ht : Knows l Table) (hE : Ent (pt b (.cells #[.int .u8 49, .int .u8 50, .int .u8 51, .int .u8 52, .int .u8 53, .int .u8 54, .int .u8 55, .int .u8 56, .int .u8 57] 5 fz) :: l) w) :
    Calls Tryd.prog 9 #[.slice (some ⟨b, 0, none⟩) 9 c] w (fun e w' => e = .returned (.int .u32 3808858755) ∧ w = w') := by
  have h := Sum_any (bs := digits) (c := c) (ht _ hE.tail) (reads_pt hE 0 rfl (off := 0) (fun j u hu => by rw [digits_cells] at hu; simpa using hu)) (by decide)
  rw [digits_sum] at h
  exact h

theorem Ok_digits {w : World} {b c : Nat} {fz : Nat × Nat} {l : List HProp} (ht : Knows l Table) (hE : Ent (pt b (.cells #[.int .u8 49, .int .u8 50, .int .u8 51, .int .u8 52, .int .u8 53, .int .u8 54, .int .u8 55, .int .u8 56, .int .u8 57] 5 fz) :: l) w) :
    Calls Tryd.prog 10 #[.slice (some ⟨b, 0, none⟩) 9 c, .int .u32 3808858755] w (fun e w' => e = .returned (.bool true) ∧ w = w') := by
  have h := Ok_any (bs := digits) (c := c) 3808858755 (ht _ hE.tail) (reads_pt hE 0 rfl (off := 0) (fun j u hu => by rw [digits_cells] at hu; simpa using hu)) (by decide)
  rw [digits_sum] at h
  exact h

theorem Ok_none (w : World) : Calls Tryd.prog 10 #[.slice none 0 0, .int .u32 1] w (fun e w' => e = .returned (.bool false) ∧ w = w') := by
  go_enter Tryd.func10, Tryd.ntmps10
  go_wp2_with ((go_at_call 9; refine (Sum_nil 0 _).mono ?_; rintro e w2 ⟨rfl, rfl⟩))
  go_ret
  exact ⟨rfl, rfl⟩

set_option maxRecDepth 100000 in
theorem wakes2_any {l : List HProp} {w : World} (ht : Knows l Table) (hE : Ent l w) :
    Calls Tryd.prog 7 #[] w (Ret fun v w' => v = .bool true ∧ Ent l w') := by
  have kc := fun (w : World) (C : Array Value) (n c : Nat) => Lib.run_convert_bytes_const (P := Tryd.prog) w 22 5 C n c Tryd.underlying22 Tryd.underlying5
  have kc2 : ∀ (w : World) (D : Obj) (C : Array Value) (n c : Nat), (convert 22 22 (.slice (some ⟨w.heap.size + 1, 0, none⟩) n c)).run Tryd.prog ((w.alloc D).alloc (.cells C 5)) = .ok (.slice (some ⟨w.heap.size + 1, 0, none⟩) n c) ((w.alloc D).alloc (.cells C 5 (C.size, C.size + 1))) := by
    intro w D C n c
    have h := kc (w.alloc D) C n c
    simpa using h
  go_enter Tryd.func7, Tryd.ntmps7
  go_wp2_with (first
    | go_skip
    | (go_at_call 9; with_reducible (refine (Sum_nil 0 _).mono ?_); rintro e w2 ⟨rfl, rfl⟩)
    | (go_at_call 10; with_reducible (refine (Ok_none _).mono ?_); rintro e w2 ⟨rfl, rfl⟩)
    | (go_at_call 9; have H := Sum_digits (c := 9) ht (hE.alloc (.cells #[.int .u8 49, .int .u8 50, .int .u8 51, .int .u8 52, .int .u8 53, .int .u8 54, .int .u8 55, .int .u8 56, .int .u8 57] 5 (9, 10))); with_reducible (refine H.mono ?_); clear H; rintro e w2 ⟨rfl, rfl⟩; replace hE := (hE.alloc (.cells #[.int .u8 49, .int .u8 50, .int .u8 51, .int .u8 52, .int .u8 53, .int .u8 54, .int .u8 55, .int .u8 56, .int .u8 57] 5 (9, 10))).tail)
    | (go_at_call 10; have H := Ok_digits (c := 9) ht (alloc_at (n := w.heap.size + 1) (by simp) hE (.cells #[.int .u8 49, .int .u8 50, .int .u8 51, .int .u8 52, .int .u8 53, .int .u8 54, .int .u8 55, .int .u8 56, .int .u8 57] 5 (9, 10))); with_reducible (refine H.mono ?_); clear H; rintro e w2 ⟨rfl, rfl⟩; replace hE := (hE.alloc (.cells #[.int .u8 49, .int .u8 50, .int .u8 51, .int .u8 52, .int .u8 53, .int .u8 54, .int .u8 55, .int .u8 56, .int .u8 57] 5 (9, 10))).tail))
  go_ret
  exact ⟨_, rfl, rfl, hE⟩

set_option maxRecDepth 100000 in
theorem CrcSums_any {l : List HProp} {w : World} {bs : List UInt8} {ao : Option Addr} {c : Nat} (n : Int) (ht : Knows l Table) (hk : Knows l (reads (.slice ao bs.length c) bs.length (bs.map fun b => Value.int .u8 b.toNat))) (hE : Ent l w) :
    Calls Tryd.prog 3 #[.slice ao bs.length c, .int .u32 n] w (Ret fun v w' => v = .bool true ∧ Ent l w') := by
  cases h3 : decide ((3000 : Int) < (bs.length : Int)) with
  | true =>
    go_enter Tryd.func3, Tryd.ntmps3
    go_wp2_with ((go_at_call 7; have H := wakes2_any ht hE; refine H.mono ?_; clear H; rintro e w2 ⟨v, rfl, rfl, hE⟩))
    go_ret
    exact ⟨_, rfl, rfl, hE⟩
  | false =>
    have hb : bs.length ≤ 1099511627776 := by have := of_decide_eq_false h3; omega
    have hsym : ((crcV bs : Int) == n) = (n == (crcV bs : Int)) := by rw [Bool.eq_iff_iff]; simp only [beq_iff_eq]; exact ⟨Eq.symm, Eq.symm⟩
    have Hsym := SL.hid hsym
    clear hsym
    go_enter Tryd.func3, Tryd.ntmps3
    go_wp2_with (first
      | go_skip
      | (refine wpl_bytesStr rfl rfl rfl Tryd.underlying22 Tryd.underlying5 Tryd.underlying9 (hk _ hE) rfl ?_)
      | (go_at_call 8; refine (refSum_any bs _ hb).mono ?_; rintro e w2 ⟨rfl, rfl⟩)
      | (go_at_call 9; refine (Sum_any (ht _ hE) (hk _ hE) hb).mono ?_; rintro e w2 ⟨rfl, rfl⟩)
      | (go_at_call 10; refine (Ok_any _ (ht _ hE) (hk _ hE) hb).mono ?_; rintro e w2 ⟨rfl, rfl⟩; try rw [Hsym.out])
      | (go_at_call 7; have H := wakes2_any ht hE; refine H.mono ?_; clear H; rintro e w2 ⟨v, rfl, rfl, hE⟩))
    go_ret
    exact ⟨_, rfl, rfl, hE⟩
end Go.Proofs.YtpchnmcofkffiaaDoor
