/-
  The bytes of any chunk that may be, as the program puts them; the document's numbers.
-/
import Derived.Test.YtohdljcpaogokaaCk9
import Derived.Test.YtohdljcpaogokaaNu
namespace Go.Proofs.Ytohdljcpaogokaa
open Go.RowKit Go.SL

theorem mayC_kids {c : Chunk} (h : mayC c = true) : c.kids.length ≤ 6 := by
  simp only [mayC, Bool.and_eq_true, decide_eq_true_eq] at h
  exact h.1.2
theorem mayC_1 {data : List UInt8} {ks : List Kid} (h : mayC ⟨1, data, ks⟩ = true) : ks = [] ∧ data.length ≤ 240 := by
  simp only [mayC, Bool.and_eq_true] at h
  have h2 := h.2
  simp only [show ((1 : UInt8) == 1) = true from rfl, if_true, Bool.and_eq_true, List.isEmpty_iff, decide_eq_true_eq] at h2
  exact h2
theorem mayC_not1 {u : UInt8} {data : List UInt8} {ks : List Kid} (h1 : (u == 1) = false) (h : mayC ⟨u, data, ks⟩ = true) : data = [] ∧ (u = 2 ∨ u = 3) := by
  simp only [mayC, Bool.and_eq_true, h1, Bool.false_eq_true, if_false] at h
  have h2 := h.2
  split at h2
  · rename_i e
    simp only [Bool.and_eq_true, List.isEmpty_iff] at h2
    exact ⟨h2.1.2, .inl (by simpa using e)⟩
  · split at h2
    · rename_i e
      simp only [Bool.and_eq_true, List.isEmpty_iff] at h2
      exact ⟨h2.2, .inr (by simpa using e)⟩
    · cases h2

theorem cPut_yes {u : UInt8} {data : List UInt8} {ks : List Kid} {ao : Option Addr} {c : Nat} (hg : ∀ k ∈ ks, k.good) (hm : mayC ⟨u, data, ks⟩ = true) {l : List HProp} {w : World} (hE : Ent l w) (hk : Knows l (reads (.slice ao ks.length c) ks.length (kidCells ks))) :
    Calls Try.prog 23 #[.agg #[.int .u8 u.toNat, .string ⟨data.toArray⟩, .slice ao ks.length c]] w (Ret fun v w' => ∃ ao c, v = .tuple #[.slice ao (putC ⟨u, data, ks⟩).length c, .int .i64 0] ∧ Ent (rowB ao c (putC ⟨u, data, ks⟩) :: l) w') := by
  have h6 := mayC_kids hm
  cases h1 : u == 1 with
  | true =>
    obtain rfl : u = 1 := by simpa using h1
    obtain ⟨rfl, hd⟩ := mayC_1 hm
    exact cPut_1 (by omega) hm hE hk
  | false =>
    obtain ⟨rfl, rfl | rfl⟩ := mayC_not1 h1 hm
    · exact cPut_2 hg h6 hm hE hk
    · exact cPut_3 hg h6 hm hE hk

theorem rnum_any (n : Nat) (hn : n < 18446744073709551616) (width : Int) {l : List HProp} {w : World} (hE : Ent l w) :
    Calls Try.prog 100 #[.int .i64 width, .int .u64 n] w (Ret fun v w' => v = .string ⟨(numS width n).toArray⟩ ∧ Ent l w') := by
  go_enter Try.func100, Try.ntmps100
  go_wp2_with (go_at_call 115; have H := Num_any n hn width hE; refine H.mono ?_; clear H hE; rintro e w2 ⟨v, rfl, rfl, hE⟩)
  go_ret
  exact ⟨_, rfl, rfl, hE⟩
theorem rnum1 {n : Nat} (hn : n < 256) {l : List HProp} {w : World} (hE : Ent l w) :
    Calls Try.prog 100 #[.int .i64 1, .int .u64 n] w (Ret fun v w' => v = .string ⟨[UInt8.ofNat n].toArray⟩ ∧ Ent l w') := by
  have h := rnum_any n (by omega) 1 hE
  rw [show numS 1 n = [UInt8.ofNat n] from be_one n] at h
  exact h
theorem rnum4 {n : Nat} (hn : n < 4294967296) {l : List HProp} {w : World} (hE : Ent l w) :
    Calls Try.prog 100 #[.int .i64 4, .int .u64 n] w (Ret fun v w' => v = .string ⟨(be 4 n).toArray⟩ ∧ Ent l w') := rnum_any n (by omega) 4 hE

set_option maxRecDepth 100000 in
theorem rPut_1 {data : List UInt8} {sl : Value} (hd : data.length ≤ 1000) {l : List HProp} {w : World} (hE : Ent l w) :
    Calls Try.prog 65 #[.agg #[.int .u8 1, .string ⟨data.toArray⟩, sl]] w (Ret fun v w' => v = .string ⟨(1 :: data).toArray⟩ ∧ Ent l w') := by
  have hj : (⟨#[1]⟩ : ByteArray) ++ ⟨data.toArray⟩ = ⟨(1 :: data).toArray⟩ := bytes_join [1] data
  go_enter Try.func65, Try.ntmps65
  go_wp2_with (first
    | go_skip
    | ((with_reducible (show Go.wpList _ _ _ (Go.Oper.mk _ (.box _ _) _ _ _ _ :: _) _ _)); refine wpl_box hE rfl rfl rfl ?_; clear hE; intro b1 w hE; simp only [Act.eval, Act.put, List.setIfInBounds_toArray, List.set_cons_zero, List.set_cons_succ, getD_lit, List.getD_cons_succ, List.getD_cons_zero, Value.cells] at hE)
    | ((with_reducible (show Go.wpList _ _ _ (Go.Oper.mk _ (.load _ _) _ _ _ _ :: _) _ _)); first | (refine wpl_load1 hE 0 rfl rfl rfl rfl (by simp [go_sem]) rfl ?_) | (refine wpl_load1 hE 1 rfl rfl rfl rfl (by simp [go_sem]) rfl ?_) | (refine wpl_load1 hE 2 rfl rfl rfl rfl (by simp [go_sem]) rfl ?_) | (refine wpl_load1 hE 3 rfl rfl rfl rfl (by simp [go_sem]) rfl ?_) | (refine wpl_load1 hE 4 rfl rfl rfl rfl (by simp [go_sem]) rfl ?_) | (refine wpl_load1 hE 5 rfl rfl rfl rfl (by simp [go_sem]) rfl ?_)))
  go_ret
  exact ⟨_, rfl, rfl, hE.tail⟩
end Go.Proofs.Ytohdljcpaogokaa
