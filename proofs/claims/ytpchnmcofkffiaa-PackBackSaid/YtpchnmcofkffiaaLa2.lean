/-
  The law on the packer of nil and the opener of nil: the walk of its function, for a text of any length.
-/
import Derived.Test.YtpchnmcofkffiaaLa1
import Derived.Test.YtpchnmcofkffiaaSlc
namespace Go.Proofs.Ytpchnmcofkffiaa
open Go.RowKit Go.SL

set_option maxRecDepth 100000 in
theorem Put_nil {l : List HProp} {w : World} (hE : Ent l w) :
    Calls Try.prog 17 #[.pointer none, .int .i64 1, .int .u64 1] w (Ret fun v w' => v = .pointer none ∧ Ent l w') := by
  go_enter Try.func17, Try.ntmps17
  go_wp2_with (first | go_skip | (go_at_call 61; refine (wide_is _ true rfl _).mono ?_; rintro e w2 ⟨rfl, rfl⟩) | (go_at_call 60; refine (puts_nil _ _ _ _).mono ?_; rintro e w2 ⟨rfl, rfl⟩) | (refine wpl_box hE rfl rfl rfl ?_; clear hE; intro b w hE; simp only [Act.eval, Act.put, List.setIfInBounds_toArray, List.set_cons_zero, List.set_cons_succ, getD_lit, List.getD_cons_succ, List.getD_cons_zero, Value.cells] at hE) | (first | (refine wpl_load1 hE 0 rfl rfl rfl rfl (by simp [go_sem]) rfl ?_) | (refine wpl_load1 hE 1 rfl rfl rfl rfl (by simp [go_sem]) rfl ?_) | (refine wpl_load1 hE 2 rfl rfl rfl rfl (by simp [go_sem]) rfl ?_) | (refine wpl_load1 hE 3 rfl rfl rfl rfl (by simp [go_sem]) rfl ?_) | (refine wpl_load1 hE 4 rfl rfl rfl rfl (by simp [go_sem]) rfl ?_) | (refine wpl_load1 hE 5 rfl rfl rfl rfl (by simp [go_sem]) rfl ?_)))
  go_ret
  exact ⟨_, rfl, rfl, hE.tail.tail⟩

theorem Hash_nil (v : Value) {l : List HProp} {w : World} (hE : Ent l w) :
    Calls Try.prog 18 #[.pointer none, v] w (Ret fun v w' => v = .pointer none ∧ Ent l w') := by
  go_enter Try.func18, Try.ntmps18
  go_wp2_with (first | (go_at_call 60; refine (puts_nil _ _ _ _).mono ?_; rintro e w2 ⟨rfl, rfl⟩) | (refine wpl_box hE rfl rfl rfl ?_; clear hE; intro b w hE; simp only [Act.eval, Act.put, List.setIfInBounds_toArray, List.set_cons_zero, List.set_cons_succ, getD_lit, List.getD_cons_succ, List.getD_cons_zero, Value.cells] at hE))
  go_ret
  exact ⟨_, rfl, rfl, hE.tail⟩

theorem Text_nil (s : ByteArray) {l : List HProp} {w : World} (hE : Ent l w) :
    Calls Try.prog 19 #[.pointer none, .string s] w (Ret fun v w' => v = .pointer none ∧ Ent l w') := by
  go_enter Try.func19, Try.ntmps19
  go_wp2_with (first | (go_at_call 60; refine (puts_nil _ _ _ _).mono ?_; rintro e w2 ⟨rfl, rfl⟩) | (refine wpl_box hE rfl rfl rfl ?_; clear hE; intro b w hE; simp only [Act.eval, Act.put, List.setIfInBounds_toArray, List.set_cons_zero, List.set_cons_succ, getD_lit, List.getD_cons_succ, List.getD_cons_zero, Value.cells] at hE))
  go_ret
  exact ⟨_, rfl, rfl, hE.tail⟩

theorem Name_nil (s : ByteArray) {l : List HProp} {w : World} (hE : Ent l w) :
    Calls Try.prog 20 #[.pointer none, .string s] w (Ret fun v w' => v = .pointer none ∧ Ent l w') := by
  go_enter Try.func20, Try.ntmps20
  go_wp2_with (first | (go_at_call 60; refine (puts_nil _ _ _ _).mono ?_; rintro e w2 ⟨rfl, rfl⟩) | (refine wpl_box hE rfl rfl rfl ?_; clear hE; intro b w hE; simp only [Act.eval, Act.put, List.setIfInBounds_toArray, List.set_cons_zero, List.set_cons_succ, getD_lit, List.getD_cons_succ, List.getD_cons_zero, Value.cells] at hE) | (first | (refine wpl_load1 hE 0 rfl rfl rfl rfl (by simp [go_sem]) rfl ?_) | (refine wpl_load1 hE 1 rfl rfl rfl rfl (by simp [go_sem]) rfl ?_) | (refine wpl_load1 hE 2 rfl rfl rfl rfl (by simp [go_sem]) rfl ?_) | (refine wpl_load1 hE 3 rfl rfl rfl rfl (by simp [go_sem]) rfl ?_) | (refine wpl_load1 hE 4 rfl rfl rfl rfl (by simp [go_sem]) rfl ?_) | (refine wpl_load1 hE 5 rfl rfl rfl rfl (by simp [go_sem]) rfl ?_)))
  go_ret
  exact ⟨_, rfl, rfl, hE.tail⟩

theorem isSomeB : (Try.prog.info? 5).isSome = true := by kernel_rfl
theorem cellsB : Try.prog.cellsOf 5 = 1 := by kernel_rfl

set_option maxRecDepth 100000 in
set_option maxHeartbeats 1000000 in
theorem PackNil_any (n : Int) (s : ByteArray) {l : List HProp} {w : World} (hE : Ent l w) :
    Calls Try.prog 4 #[.int .i64 n, .string s] w (Ret fun v w' => v = .bool true ∧ Ent l w') := by
  cases hs : decide ((400 : Int) < (s.size : Int)) with
  | true =>
    go_enter Try.func4, Try.ntmps4
    go_wp2_with (first | (go_at_call 12; have H := wakes1_any hE; refine H.mono ?_; clear H; rintro e w2 ⟨v, rfl, rfl, hE⟩))
    go_ret
    exact ⟨_, rfl, rfl, hE⟩
  | false =>
    go_enter Try.func4, Try.ntmps4
    go_wp2_with (first
      | go_skip
      | (go_at_call 17; refine (Put_nil hE).mono ?_; rintro e w2 ⟨v, rfl, rfl, hE⟩)
      | (go_at_call 18; refine (Hash_nil _ hE).mono ?_; rintro e w2 ⟨v, rfl, rfl, hE⟩)
      | (go_at_call 19; refine (Text_nil s hE).mono ?_; rintro e w2 ⟨v, rfl, rfl, hE⟩)
      | (go_at_call 20; refine (Name_nil s hE).mono ?_; rintro e w2 ⟨v, rfl, rfl, hE⟩)
      | (go_at_call 16; refine (Bytes_nil _).mono ?_; rintro e w2 ⟨rfl, rfl⟩)
      | (go_at_call 21; refine (oTake_nil 1 rfl _).mono ?_; rintro e w2 ⟨rfl, rfl⟩)
      | (go_at_call 22; refine (oHash_nil hE).mono ?_; rintro e w2 ⟨v, rfl, rfl, hE⟩)
      | (go_at_call 23; refine (oText_nil n _).mono ?_; rintro e w2 ⟨rfl, rfl⟩)
      | (go_at_call 24; refine (oName_nil _).mono ?_; rintro e w2 ⟨v, rfl, rfl, hk⟩; replace hE := hk _ hE; clear hk)
      | (refine wpl_eqA (ys := hz) (zs := hz) rfl rfl rfl rfl Try.eqGuardType31 Try.underlying31 isSomeB cellsB Try.underlying5 rfl rfl ?_)
      | (go_at_call 25; refine (Left_nil _).mono ?_; rintro e w2 ⟨rfl, rfl⟩)
      | (go_at_call 26; refine (Err_nil _).mono ?_; rintro e w2 ⟨rfl, rfl⟩)
      | (go_at_call 27; refine (End_nil _).mono ?_; rintro e w2 ⟨rfl, rfl⟩)
      | (go_at_call 12; have H := wakes1_any hE; refine H.mono ?_; clear H; rintro e w2 ⟨v, rfl, rfl, hE⟩))
    go_ret
    exact ⟨_, rfl, rfl, hE⟩
end Go.Proofs.Ytpchnmcofkffiaa
