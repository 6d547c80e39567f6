/-
  Which shapes may be, how much goes in: the program's and the document's.
-/
import Derived.Test.YtohdljcpaogokaaNd1
import Derived.Test.YtohdljcpaogokaaSlq
import Derived.Test.YtohdljcpaogokaaBt
namespace Go.Proofs.Ytohdljcpaogokaa
open Go.RowKit Go.SL

def shp (kw vw : Int) : Value := .agg #[.int .i64 kw, .int .i64 vw]

set_option maxRecDepth 100000 in
theorem May_shape {kw vw : Int} {l : List HProp} {w : World} (hE : Ent l w) :
    Calls Try.prog 27 #[.agg #[.int .i64 kw, .int .i64 vw]] w (Ret fun v w' => v = .bool (rightN kw vw) ∧ Ent l w') := by
  have R := SL.hid (show rightN kw vw = (decide (1 ≤ kw) && (decide (kw ≤ 64) && (decide (0 ≤ vw) && decide (vw ≤ 64)))) from rfl)
  generalize rightN kw vw = r at *
  cases h1 : decide ((1 : Int) ≤ kw) with
  | false =>
    have R1 := SL.hid (show r = false by rw [R.out, h1]; rfl)
    go_enter Try.func27, Try.ntmps27
    go_wp2_with (first | go_skip | ((with_reducible (show Go.wpList _ _ _ (Go.Oper.mk _ (.box _ _) _ _ _ _ :: _) _ _)); refine wpl_box hE rfl rfl rfl ?_; clear hE; intro b1 w hE; simp only [Act.eval, Act.put, List.setIfInBounds_toArray, List.set_cons_zero, List.set_cons_succ, getD_lit, List.getD_cons_succ, List.getD_cons_zero, Value.cells] at hE) | ((with_reducible (show Go.wpList _ _ _ (Go.Oper.mk _ (.load _ _) _ _ _ _ :: _) _ _)); first | (refine wpl_load1 hE 0 rfl rfl rfl rfl (by simp [go_sem]) rfl ?_) | (refine wpl_load1 hE 1 rfl rfl rfl rfl (by simp [go_sem]) rfl ?_) | (refine wpl_load1 hE 2 rfl rfl rfl rfl (by simp [go_sem]) rfl ?_) | (refine wpl_load1 hE 3 rfl rfl rfl rfl (by simp [go_sem]) rfl ?_) | (refine wpl_load1 hE 4 rfl rfl rfl rfl (by simp [go_sem]) rfl ?_) | (refine wpl_load1 hE 5 rfl rfl rfl rfl (by simp [go_sem]) rfl ?_)))
    go_ret
    exact ⟨_, rfl, by rw [R1.out]; rfl, hE.tail⟩
  | true =>
    cases h2 : decide (kw ≤ (64 : Int)) with
    | false =>
      have R1 := SL.hid (show r = false by rw [R.out, h1, h2]; rfl)
      go_enter Try.func27, Try.ntmps27
      go_wp2_with (first | go_skip | ((with_reducible (show Go.wpList _ _ _ (Go.Oper.mk _ (.box _ _) _ _ _ _ :: _) _ _)); refine wpl_box hE rfl rfl rfl ?_; clear hE; intro b1 w hE; simp only [Act.eval, Act.put, List.setIfInBounds_toArray, List.set_cons_zero, List.set_cons_succ, getD_lit, List.getD_cons_succ, List.getD_cons_zero, Value.cells] at hE) | ((with_reducible (show Go.wpList _ _ _ (Go.Oper.mk _ (.load _ _) _ _ _ _ :: _) _ _)); first | (refine wpl_load1 hE 0 rfl rfl rfl rfl (by simp [go_sem]) rfl ?_) | (refine wpl_load1 hE 1 rfl rfl rfl rfl (by simp [go_sem]) rfl ?_) | (refine wpl_load1 hE 2 rfl rfl rfl rfl (by simp [go_sem]) rfl ?_) | (refine wpl_load1 hE 3 rfl rfl rfl rfl (by simp [go_sem]) rfl ?_) | (refine wpl_load1 hE 4 rfl rfl rfl rfl (by simp [go_sem]) rfl ?_) | (refine wpl_load1 hE 5 rfl rfl rfl rfl (by simp [go_sem]) rfl ?_)))
      go_ret
      exact ⟨_, rfl, by rw [R1.out]; rfl, hE.tail⟩
    | true =>
      cases h3 : decide ((0 : Int) ≤ vw) with
      | false =>
        have R1 := SL.hid (show r = false by rw [R.out, h1, h2, h3]; rfl)
        go_enter Try.func27, Try.ntmps27
        go_wp2_with (first | go_skip | ((with_reducible (show Go.wpList _ _ _ (Go.Oper.mk _ (.box _ _) _ _ _ _ :: _) _ _)); refine wpl_box hE rfl rfl rfl ?_; clear hE; intro b1 w hE; simp only [Act.eval, Act.put, List.setIfInBounds_toArray, List.set_cons_zero, List.set_cons_succ, getD_lit, List.getD_cons_succ, List.getD_cons_zero, Value.cells] at hE) | ((with_reducible (show Go.wpList _ _ _ (Go.Oper.mk _ (.load _ _) _ _ _ _ :: _) _ _)); first | (refine wpl_load1 hE 0 rfl rfl rfl rfl (by simp [go_sem]) rfl ?_) | (refine wpl_load1 hE 1 rfl rfl rfl rfl (by simp [go_sem]) rfl ?_) | (refine wpl_load1 hE 2 rfl rfl rfl rfl (by simp [go_sem]) rfl ?_) | (refine wpl_load1 hE 3 rfl rfl rfl rfl (by simp [go_sem]) rfl ?_) | (refine wpl_load1 hE 4 rfl rfl rfl rfl (by simp [go_sem]) rfl ?_) | (refine wpl_load1 hE 5 rfl rfl rfl rfl (by simp [go_sem]) rfl ?_)))
        go_ret
        exact ⟨_, rfl, by rw [R1.out]; rfl, hE.tail⟩
      | true =>
        cases h4 : decide (vw ≤ (64 : Int))
        all_goals
          have R1 := SL.hid (R.out.trans (show _ = decide (vw ≤ (64 : Int)) by rw [h1, h2, h3]; rfl))
          rw [h4] at R1
          go_enter Try.func27, Try.ntmps27
          go_wp2_with (first | go_skip | ((with_reducible (show Go.wpList _ _ _ (Go.Oper.mk _ (.box _ _) _ _ _ _ :: _) _ _)); refine wpl_box hE rfl rfl rfl ?_; clear hE; intro b1 w hE; simp only [Act.eval, Act.put, List.setIfInBounds_toArray, List.set_cons_zero, List.set_cons_succ, getD_lit, List.getD_cons_succ, List.getD_cons_zero, Value.cells] at hE) | ((with_reducible (show Go.wpList _ _ _ (Go.Oper.mk _ (.load _ _) _ _ _ _ :: _) _ _)); first | (refine wpl_load1 hE 0 rfl rfl rfl rfl (by simp [go_sem]) rfl ?_) | (refine wpl_load1 hE 1 rfl rfl rfl rfl (by simp [go_sem]) rfl ?_) | (refine wpl_load1 hE 2 rfl rfl rfl rfl (by simp [go_sem]) rfl ?_) | (refine wpl_load1 hE 3 rfl rfl rfl rfl (by simp [go_sem]) rfl ?_) | (refine wpl_load1 hE 4 rfl rfl rfl rfl (by simp [go_sem]) rfl ?_) | (refine wpl_load1 hE 5 rfl rfl rfl rfl (by simp [go_sem]) rfl ?_)))
          go_ret
          exact ⟨_, rfl, by rw [R1.out]; rfl, hE.tail⟩

set_option maxRecDepth 100000 in
theorem Right_shape {kw vw : Int} {l : List HProp} {w : World} (hE : Ent l w) :
    Calls Try.prog 28 #[.agg #[.int .i64 kw, .int .i64 vw]] w (Ret fun v w' => v = .bool (rightN kw vw) ∧ Ent l w') := by
  have R := SL.hid (show rightN kw vw = (decide (0 < kw) && (decide (kw < 65) && (decide (0 ≤ vw) && decide (vw < 65)))) by
    rw [rightN]
    congr 1
    congr 1
    · exact decide_eq_decide.2 (by omega)
    · congr 1
      exact decide_eq_decide.2 (by omega))
  generalize rightN kw vw = r at *
  cases h1 : decide ((0 : Int) < kw) with
  | false =>
    have R1 := SL.hid (show r = false by rw [R.out, h1]; rfl)
    go_enter Try.func28, Try.ntmps28
    go_wp2_with (first | go_skip | ((with_reducible (show Go.wpList _ _ _ (Go.Oper.mk _ (.box _ _) _ _ _ _ :: _) _ _)); refine wpl_box hE rfl rfl rfl ?_; clear hE; intro b1 w hE; simp only [Act.eval, Act.put, List.setIfInBounds_toArray, List.set_cons_zero, List.set_cons_succ, getD_lit, List.getD_cons_succ, List.getD_cons_zero, Value.cells] at hE) | ((with_reducible (show Go.wpList _ _ _ (Go.Oper.mk _ (.load _ _) _ _ _ _ :: _) _ _)); first | (refine wpl_load1 hE 0 rfl rfl rfl rfl (by simp [go_sem]) rfl ?_) | (refine wpl_load1 hE 1 rfl rfl rfl rfl (by simp [go_sem]) rfl ?_) | (refine wpl_load1 hE 2 rfl rfl rfl rfl (by simp [go_sem]) rfl ?_) | (refine wpl_load1 hE 3 rfl rfl rfl rfl (by simp [go_sem]) rfl ?_) | (refine wpl_load1 hE 4 rfl rfl rfl rfl (by simp [go_sem]) rfl ?_) | (refine wpl_load1 hE 5 rfl rfl rfl rfl (by simp [go_sem]) rfl ?_)))
    go_ret
    exact ⟨_, rfl, by rw [R1.out]; rfl, hE.tail⟩
  | true =>
    cases h2 : decide (kw < (65 : Int)) with
    | false =>
      have R1 := SL.hid (show r = false by rw [R.out, h1, h2]; rfl)
      go_enter Try.func28, Try.ntmps28
      go_wp2_with (first | go_skip | ((with_reducible (show Go.wpList _ _ _ (Go.Oper.mk _ (.box _ _) _ _ _ _ :: _) _ _)); refine wpl_box hE rfl rfl rfl ?_; clear hE; intro b1 w hE; simp only [Act.eval, Act.put, List.setIfInBounds_toArray, List.set_cons_zero, List.set_cons_succ, getD_lit, List.getD_cons_succ, List.getD_cons_zero, Value.cells] at hE) | ((with_reducible (show Go.wpList _ _ _ (Go.Oper.mk _ (.load _ _) _ _ _ _ :: _) _ _)); first | (refine wpl_load1 hE 0 rfl rfl rfl rfl (by simp [go_sem]) rfl ?_) | (refine wpl_load1 hE 1 rfl rfl rfl rfl (by simp [go_sem]) rfl ?_) | (refine wpl_load1 hE 2 rfl rfl rfl rfl (by simp [go_sem]) rfl ?_) | (refine wpl_load1 hE 3 rfl rfl rfl rfl (by simp [go_sem]) rfl ?_) | (refine wpl_load1 hE 4 rfl rfl rfl rfl (by simp [go_sem]) rfl ?_) | (refine wpl_load1 hE 5 rfl rfl rfl rfl (by simp [go_sem]) rfl ?_)))
      go_ret
      exact ⟨_, rfl, by rw [R1.out]; rfl, hE.tail⟩
    | true =>
      cases h3 : decide ((0 : Int) ≤ vw) with
      | false =>
        have R1 := SL.hid (show r = false by rw [R.out, h1, h2, h3]; rfl)
        go_enter Try.func28, Try.ntmps28
        go_wp2_with (first | go_skip | ((with_reducible (show Go.wpList _ _ _ (Go.Oper.mk _ (.box _ _) _ _ _ _ :: _) _ _)); refine wpl_box hE rfl rfl rfl ?_; clear hE; intro b1 w hE; simp only [Act.eval, Act.put, List.setIfInBounds_toArray, List.set_cons_zero, List.set_cons_succ, getD_lit, List.getD_cons_succ, List.getD_cons_zero, Value.cells] at hE) | ((with_reducible (show Go.wpList _ _ _ (Go.Oper.mk _ (.load _ _) _ _ _ _ :: _) _ _)); first | (refine wpl_load1 hE 0 rfl rfl rfl rfl (by simp [go_sem]) rfl ?_) | (refine wpl_load1 hE 1 rfl rfl rfl rfl (by simp [go_sem]) rfl ?_) | (refine wpl_load1 hE 2 rfl rfl rfl rfl (by simp [go_sem]) rfl ?_) | (refine wpl_load1 hE 3 rfl rfl rfl rfl (by simp [go_sem]) rfl ?_) | (refine wpl_load1 hE 4 rfl rfl rfl rfl (by simp [go_sem]) rfl ?_) | (refine wpl_load1 hE 5 rfl rfl rfl rfl (by simp [go_sem]) rfl ?_)))
        go_ret
        exact ⟨_, rfl, by rw [R1.out]; rfl, hE.tail⟩
      | true =>
        cases h4 : decide (vw < (65 : Int))
        all_goals
          have R1 := SL.hid (R.out.trans (show _ = decide (vw < (65 : Int)) by rw [h1, h2, h3]; rfl))
          rw [h4] at R1
          go_enter Try.func28, Try.ntmps28
          go_wp2_with (first | go_skip | ((with_reducible (show Go.wpList _ _ _ (Go.Oper.mk _ (.box _ _) _ _ _ _ :: _) _ _)); refine wpl_box hE rfl rfl rfl ?_; clear hE; intro b1 w hE; simp only [Act.eval, Act.put, List.setIfInBounds_toArray, List.set_cons_zero, List.set_cons_succ, getD_lit, List.getD_cons_succ, List.getD_cons_zero, Value.cells] at hE) | ((with_reducible (show Go.wpList _ _ _ (Go.Oper.mk _ (.load _ _) _ _ _ _ :: _) _ _)); first | (refine wpl_load1 hE 0 rfl rfl rfl rfl (by simp [go_sem]) rfl ?_) | (refine wpl_load1 hE 1 rfl rfl rfl rfl (by simp [go_sem]) rfl ?_) | (refine wpl_load1 hE 2 rfl rfl rfl rfl (by simp [go_sem]) rfl ?_) | (refine wpl_load1 hE 3 rfl rfl rfl rfl (by simp [go_sem]) rfl ?_) | (refine wpl_load1 hE 4 rfl rfl rfl rfl (by simp [go_sem]) rfl ?_) | (refine wpl_load1 hE 5 rfl rfl rfl rfl (by simp [go_sem]) rfl ?_)))
          go_ret
          exact ⟨_, rfl, by rw [R1.out]; rfl, hE.tail⟩

set_option maxRecDepth 100000 in
theorem Cap_shape {kw vw : Int} {l : List HProp} {w : World} (hE : Ent l w) :
    Calls Try.prog 29 #[.agg #[.int .i64 kw, .int .i64 vw]] w (Ret fun v w' => v = .int .i64 (capN kw vw) ∧ Ent l w') := by
  have hM := fun {l : List HProp} {w : World} (h : Ent l w) => May_shape (kw := kw) (vw := vw) h
  cases hr : rightN kw vw with
  | false =>
    have R := SL.hid (show capN kw vw = 0 by rw [capN, hr]; rfl)
    rw [hr] at hM
    clear hr
    go_enter Try.func29, Try.ntmps29
    go_wp2_with (first
      | go_skip
      | ((with_reducible (show Go.wpList _ _ _ (Go.Oper.mk _ (.box _ _) _ _ _ _ :: _) _ _)); refine wpl_box hE rfl rfl rfl ?_; clear hE; intro b1 w hE; simp only [Act.eval, Act.put, List.setIfInBounds_toArray, List.set_cons_zero, List.set_cons_succ, getD_lit, List.getD_cons_succ, List.getD_cons_zero, Value.cells] at hE)
      | ((with_reducible (show Go.wpList _ _ _ (Go.Oper.mk _ (.load _ (.tmp 1)) _ _ _ _ :: _) _ _)); refine wpl_loadW hE 0 rfl rfl rfl rfl Try.isAgg68 Try.sizeOf68 (xs := [.int .i64 kw, .int .i64 vw]) rfl ?_)
      | (go_at_call 27; refine (hM hE).mono ?_; clear hE; rintro e w2 ⟨v, rfl, rfl, hE⟩)
      | ((with_reducible (show Go.wpList _ _ _ (Go.Oper.mk _ (.load _ _) _ _ _ _ :: _) _ _)); first | (refine wpl_load1 hE 0 rfl rfl rfl rfl (by simp [go_sem]) rfl ?_) | (refine wpl_load1 hE 1 rfl rfl rfl rfl (by simp [go_sem]) rfl ?_) | (refine wpl_load1 hE 2 rfl rfl rfl rfl (by simp [go_sem]) rfl ?_) | (refine wpl_load1 hE 3 rfl rfl rfl rfl (by simp [go_sem]) rfl ?_) | (refine wpl_load1 hE 4 rfl rfl rfl rfl (by simp [go_sem]) rfl ?_) | (refine wpl_load1 hE 5 rfl rfl rfl rfl (by simp [go_sem]) rfl ?_)))
    go_ret
    exact ⟨_, rfl, by rw [R.out]; rfl, hE.tail⟩
  | true =>
    have R := SL.hid (show capN kw vw = 508 / (kw + vw) by rw [capN, hr]; rfl)
    obtain ⟨k1, k2, k3, k4⟩ := rightN_iff.1 hr
    rw [hr] at hM
    clear hr
    go_enter Try.func29, Try.ntmps29
    go_wp2_with (first
      | go_skip
      | ((with_reducible (show Go.wpList _ _ _ (Go.Oper.mk _ (.box _ _) _ _ _ _ :: _) _ _)); refine wpl_box hE rfl rfl rfl ?_; clear hE; intro b1 w hE; simp only [Act.eval, Act.put, List.setIfInBounds_toArray, List.set_cons_zero, List.set_cons_succ, getD_lit, List.getD_cons_succ, List.getD_cons_zero, Value.cells] at hE)
      | ((with_reducible (show Go.wpList _ _ _ (Go.Oper.mk _ (.load _ (.tmp 1)) _ _ _ _ :: _) _ _)); refine wpl_loadW hE 0 rfl rfl rfl rfl Try.isAgg68 Try.sizeOf68 (xs := [.int .i64 kw, .int .i64 vw]) rfl ?_)
      | (go_at_call 27; refine (hM hE).mono ?_; clear hE; rintro e w2 ⟨v, rfl, rfl, hE⟩)
      | ((with_reducible (show Go.wpList _ _ _ (Go.Oper.mk _ (.load _ _) _ _ _ _ :: _) _ _)); first | (refine wpl_load1 hE 0 rfl rfl rfl rfl (by simp [go_sem]) rfl ?_) | (refine wpl_load1 hE 1 rfl rfl rfl rfl (by simp [go_sem]) rfl ?_) | (refine wpl_load1 hE 2 rfl rfl rfl rfl (by simp [go_sem]) rfl ?_) | (refine wpl_load1 hE 3 rfl rfl rfl rfl (by simp [go_sem]) rfl ?_) | (refine wpl_load1 hE 4 rfl rfl rfl rfl (by simp [go_sem]) rfl ?_) | (refine wpl_load1 hE 5 rfl rfl rfl rfl (by simp [go_sem]) rfl ?_)))
    go_ret
    exact ⟨_, rfl, by rw [R.out]; rfl, hE.tail⟩

set_option maxRecDepth 100000 in
theorem Fan_shape {kw vw : Int} {l : List HProp} {w : World} (hE : Ent l w) :
    Calls Try.prog 31 #[.agg #[.int .i64 kw, .int .i64 vw]] w (Ret fun v w' => v = .int .i64 (fanN kw vw) ∧ Ent l w') := by
  have hM := fun {l : List HProp} {w : World} (h : Ent l w) => May_shape (kw := kw) (vw := vw) h
  cases hr : rightN kw vw with
  | false =>
    have R := SL.hid (show fanN kw vw = 0 by rw [fanN, hr]; rfl)
    rw [hr] at hM
    clear hr
    go_enter Try.func31, Try.ntmps31
    go_wp2_with (first
      | go_skip
      | ((with_reducible (show Go.wpList _ _ _ (Go.Oper.mk _ (.box _ _) _ _ _ _ :: _) _ _)); refine wpl_box hE rfl rfl rfl ?_; clear hE; intro b1 w hE; simp only [Act.eval, Act.put, List.setIfInBounds_toArray, List.set_cons_zero, List.set_cons_succ, getD_lit, List.getD_cons_succ, List.getD_cons_zero, Value.cells] at hE)
      | ((with_reducible (show Go.wpList _ _ _ (Go.Oper.mk _ (.load _ (.tmp 1)) _ _ _ _ :: _) _ _)); refine wpl_loadW hE 0 rfl rfl rfl rfl Try.isAgg68 Try.sizeOf68 (xs := [.int .i64 kw, .int .i64 vw]) rfl ?_)
      | (go_at_call 27; refine (hM hE).mono ?_; clear hE; rintro e w2 ⟨v, rfl, rfl, hE⟩)
      | ((with_reducible (show Go.wpList _ _ _ (Go.Oper.mk _ (.load _ _) _ _ _ _ :: _) _ _)); first | (refine wpl_load1 hE 0 rfl rfl rfl rfl (by simp [go_sem]) rfl ?_) | (refine wpl_load1 hE 1 rfl rfl rfl rfl (by simp [go_sem]) rfl ?_) | (refine wpl_load1 hE 2 rfl rfl rfl rfl (by simp [go_sem]) rfl ?_) | (refine wpl_load1 hE 3 rfl rfl rfl rfl (by simp [go_sem]) rfl ?_) | (refine wpl_load1 hE 4 rfl rfl rfl rfl (by simp [go_sem]) rfl ?_) | (refine wpl_load1 hE 5 rfl rfl rfl rfl (by simp [go_sem]) rfl ?_)))
    go_ret
    exact ⟨_, rfl, by rw [R.out]; rfl, hE.tail⟩
  | true =>
    have R := SL.hid (show fanN kw vw = (508 + kw) / (kw + 2) by rw [fanN, hr]; rfl)
    obtain ⟨k1, k2, k3, k4⟩ := rightN_iff.1 hr
    rw [hr] at hM
    clear hr
    go_enter Try.func31, Try.ntmps31
    go_wp2_with (first
      | go_skip
      | ((with_reducible (show Go.wpList _ _ _ (Go.Oper.mk _ (.box _ _) _ _ _ _ :: _) _ _)); refine wpl_box hE rfl rfl rfl ?_; clear hE; intro b1 w hE; simp only [Act.eval, Act.put, List.setIfInBounds_toArray, List.set_cons_zero, List.set_cons_succ, getD_lit, List.getD_cons_succ, List.getD_cons_zero, Value.cells] at hE)
      | ((with_reducible (show Go.wpList _ _ _ (Go.Oper.mk _ (.load _ (.tmp 1)) _ _ _ _ :: _) _ _)); refine wpl_loadW hE 0 rfl rfl rfl rfl Try.isAgg68 Try.sizeOf68 (xs := [.int .i64 kw, .int .i64 vw]) rfl ?_)
      | (go_at_call 27; refine (hM hE).mono ?_; clear hE; rintro e w2 ⟨v, rfl, rfl, hE⟩)
      | ((with_reducible (show Go.wpList _ _ _ (Go.Oper.mk _ (.load _ _) _ _ _ _ :: _) _ _)); first | (refine wpl_load1 hE 0 rfl rfl rfl rfl (by simp [go_sem]) rfl ?_) | (refine wpl_load1 hE 1 rfl rfl rfl rfl (by simp [go_sem]) rfl ?_) | (refine wpl_load1 hE 2 rfl rfl rfl rfl (by simp [go_sem]) rfl ?_) | (refine wpl_load1 hE 3 rfl rfl rfl rfl (by simp [go_sem]) rfl ?_) | (refine wpl_load1 hE 4 rfl rfl rfl rfl (by simp [go_sem]) rfl ?_) | (refine wpl_load1 hE 5 rfl rfl rfl rfl (by simp [go_sem]) rfl ?_)))
    go_ret
    exact ⟨_, rfl, by rw [R.out]; rfl, hE.tail⟩

def CapRel (b : Nat) (c : Int) (s : Int) (l : List HProp) (n : Value) (wr : World) : Prop := ∃ k : Nat, (k : Int) ≤ c ∧ (k : Int) * s ≤ 508 ∧ n = .int .i64 k ∧ Ent l wr

set_option maxRecDepth 100000 in
set_option maxHeartbeats 1000000 in
theorem rCap_shape {kw vw : Int} {l : List HProp} {w : World} (hE : Ent l w) :
    Calls Try.prog 30 #[.agg #[.int .i64 kw, .int .i64 vw]] w (Ret fun v w' => v = .int .i64 (capN kw vw) ∧ Ent l w') := by
  have hM := fun {l : List HProp} {w : World} (h : Ent l w) => Right_shape (kw := kw) (vw := vw) h
  cases hr : rightN kw vw with
  | false =>
    have R := SL.hid (show capN kw vw = 0 by rw [capN, hr]; rfl)
    rw [hr] at hM
    clear hr
    go_enter Try.func30, Try.ntmps30
    go_wp2_with (first | go_skip | ((with_reducible (show Go.wpList _ _ _ (Go.Oper.mk _ (.box _ _) _ _ _ _ :: _) _ _)); refine wpl_box hE rfl rfl rfl ?_; clear hE; intro b1 w hE; simp only [Act.eval, Act.put, List.setIfInBounds_toArray, List.set_cons_zero, List.set_cons_succ, getD_lit, List.getD_cons_succ, List.getD_cons_zero, Value.cells] at hE))
    go_loopw [3] (fun n wr => n = .int .i64 0 ∧ Ent (pt b1 (.cells #[.int .i64 kw, .int .i64 vw] 62) :: l) wr) (fun _ _ => 0)
    case atStart => exact ⟨rfl, hE⟩
    case round =>
      clear hE
      obtain ⟨rfl, hE⟩ := hrel
      go_wp2_with (first
        | go_skip
        | ((with_reducible (show Go.wpList _ _ _ (Go.Oper.mk _ (.load _ (.tmp 1)) _ _ _ _ :: _) _ _)); refine wpl_loadW hE 0 rfl rfl rfl rfl Try.isAgg62 Try.sizeOf62 (xs := [.int .i64 kw, .int .i64 vw]) rfl ?_)
        | (go_at_call 28; refine (hM hE).mono ?_; clear hE; rintro e w2 ⟨v, rfl, rfl, hE⟩)
        | ((with_reducible (show Go.wpList _ _ _ (Go.Oper.mk _ (.load _ _) _ _ _ _ :: _) _ _)); first | (refine wpl_load1 hE 0 rfl rfl rfl rfl (by simp [go_sem]) rfl ?_) | (refine wpl_load1 hE 1 rfl rfl rfl rfl (by simp [go_sem]) rfl ?_) | (refine wpl_load1 hE 2 rfl rfl rfl rfl (by simp [go_sem]) rfl ?_) | (refine wpl_load1 hE 3 rfl rfl rfl rfl (by simp [go_sem]) rfl ?_) | (refine wpl_load1 hE 4 rfl rfl rfl rfl (by simp [go_sem]) rfl ?_) | (refine wpl_load1 hE 5 rfl rfl rfl rfl (by simp [go_sem]) rfl ?_)))
      go_ret
      exact ⟨_, rfl, by rw [R.out]; rfl, hE.tail⟩
  | true =>
    have R := SL.hid (show capN kw vw = 508 / (kw + vw) by rw [capN, hr]; rfl)
    obtain ⟨k1, k2, k3, k4⟩ := rightN_iff.1 hr
    rw [hr] at hM
    clear hr
    obtain ⟨s, hs⟩ : ∃ s, s = kw + vw := ⟨_, rfl⟩
    have Hs := SL.hid hs
    have s1 : 1 ≤ s := by omega
    have s2 : s ≤ 128 := by omega
    go_enter Try.func30, Try.ntmps30
    go_wp2_with (first | go_skip | ((with_reducible (show Go.wpList _ _ _ (Go.Oper.mk _ (.box _ _) _ _ _ _ :: _) _ _)); refine wpl_box hE rfl rfl rfl ?_; clear hE; intro b1 w hE; simp only [Act.eval, Act.put, List.setIfInBounds_toArray, List.set_cons_zero, List.set_cons_succ, getD_lit, List.getD_cons_succ, List.getD_cons_zero, Value.cells] at hE))
    go_loopw [3] (fun n wr => CapRel b1 (capN kw vw) s (pt b1 (.cells #[.int .i64 kw, .int .i64 vw] 62) :: l) n wr) (fun n _ => 600 - (intOf n).toNat)
    case atStart => exact ⟨0, by rw [R.out]; exact Int.ediv_nonneg (by omega) (by omega), by simp, rfl, hE⟩
    case round =>
      clear hE
      obtain ⟨k, hk, hks, rfl, hE⟩ := hrel
      have hk5 : (k : Int) ≤ 508 := by
        have := Int.mul_le_mul_of_nonneg_left s1 (show (0 : Int) ≤ k by omega)
        omega
      obtain ⟨m, hm⟩ : ∃ m : Int, m = (k + 1) * s := ⟨_, rfl⟩
      have hmm : m = (k : Int) * s + s := by rw [hm, Int.add_mul, Int.one_mul]
      have hm1 : 0 ≤ m := by have := Int.mul_nonneg (show (0 : Int) ≤ k by omega) (show (0 : Int) ≤ s by omega); omega
      have hm2 : m ≤ 1000 := by omega
      have Hm := SL.hid hmm
      have w1 : IntKind.i64.wrap ((k : Int) + 1) = (k : Int) + 1 := wrap_id (by omega)
      have w2 : IntKind.i64.wrap (kw + vw) = s := by rw [← hs]; exact wrap_id (by omega)
      have w3 : IntKind.i64.wrap (((k : Int) + 1) * s) = m := by rw [← hm]; exact wrap_id (by omega)
      clear hm hmm hs
      by_cases hc : m ≤ 508
      · have hcd : decide (m ≤ 508) = true := decide_eq_true hc
        go_wp2_with (first
        | go_skip
          | ((with_reducible (show Go.wpList _ _ _ (Go.Oper.mk _ (.load _ (.tmp 1)) _ _ _ _ :: _) _ _)); refine wpl_loadW hE 0 rfl rfl rfl rfl Try.isAgg62 Try.sizeOf62 (xs := [.int .i64 kw, .int .i64 vw]) rfl ?_)
          | (go_at_call 28; refine (hM hE).mono ?_; clear hE; rintro e w2 ⟨v, rfl, rfl, hE⟩)
          | ((with_reducible (show Go.wpList _ _ _ (Go.Oper.mk _ (.load _ _) _ _ _ _ :: _) _ _)); first | (refine wpl_load1 hE 0 rfl rfl rfl rfl (by simp [go_sem]) rfl ?_) | (refine wpl_load1 hE 1 rfl rfl rfl rfl (by simp [go_sem]) rfl ?_) | (refine wpl_load1 hE 2 rfl rfl rfl rfl (by simp [go_sem]) rfl ?_) | (refine wpl_load1 hE 3 rfl rfl rfl rfl (by simp [go_sem]) rfl ?_) | (refine wpl_load1 hE 4 rfl rfl rfl rfl (by simp [go_sem]) rfl ?_) | (refine wpl_load1 hE 5 rfl rfl rfl rfl (by simp [go_sem]) rfl ?_)))
        go_roundw
        case rel => exact ⟨k + 1, by rw [R.out, ← Hs.out]; exact Int.le_ediv_of_mul_le (by omega) (by push_cast; rw [Int.add_mul, Int.one_mul, ← Hm.out]; exact hc), by push_cast; rw [Int.add_mul, Int.one_mul, ← Hm.out]; exact hc, by first | rfl | simp, hE⟩
        case measure => simp [intOf]; omega
      · have hcd : decide (m ≤ 508) = false := decide_eq_false hc
        have Hk := SL.hid (show capN kw vw = (k : Int) by
          rw [R.out, ← Hs.out]
          refine Int.le_antisymm ?_ (Int.le_ediv_of_mul_le (by omega) hks)
          refine Int.le_of_lt_add_one (Int.ediv_lt_of_lt_mul (by omega) ?_)
          rw [Int.add_mul, Int.one_mul, ← Hm.out]
          omega)
        go_wp2_with (first
          | go_skip
          | ((with_reducible (show Go.wpList _ _ _ (Go.Oper.mk _ (.load _ (.tmp 1)) _ _ _ _ :: _) _ _)); refine wpl_loadW hE 0 rfl rfl rfl rfl Try.isAgg62 Try.sizeOf62 (xs := [.int .i64 kw, .int .i64 vw]) rfl ?_)
          | (go_at_call 28; refine (hM hE).mono ?_; clear hE; rintro e w2 ⟨v, rfl, rfl, hE⟩)
          | ((with_reducible (show Go.wpList _ _ _ (Go.Oper.mk _ (.load _ _) _ _ _ _ :: _) _ _)); first | (refine wpl_load1 hE 0 rfl rfl rfl rfl (by simp [go_sem]) rfl ?_) | (refine wpl_load1 hE 1 rfl rfl rfl rfl (by simp [go_sem]) rfl ?_) | (refine wpl_load1 hE 2 rfl rfl rfl rfl (by simp [go_sem]) rfl ?_) | (refine wpl_load1 hE 3 rfl rfl rfl rfl (by simp [go_sem]) rfl ?_) | (refine wpl_load1 hE 4 rfl rfl rfl rfl (by simp [go_sem]) rfl ?_) | (refine wpl_load1 hE 5 rfl rfl rfl rfl (by simp [go_sem]) rfl ?_)))
        go_ret
        exact ⟨_, rfl, by rw [Hk.out]; rfl, hE.tail⟩

def FanRel (s : Int) (l : List HProp) (n : Value) (wr : World) : Prop := ∃ k : Nat, (k : Int) * s ≤ 506 + s ∧ n = .int .i64 k ∧ Ent l wr

set_option maxRecDepth 100000 in
set_option maxHeartbeats 1000000 in
theorem rFan_shape {kw vw : Int} {l : List HProp} {w : World} (hE : Ent l w) :
    Calls Try.prog 32 #[.agg #[.int .i64 kw, .int .i64 vw]] w (Ret fun v w' => v = .int .i64 (fanN kw vw) ∧ Ent l w') := by
  have hM := fun {l : List HProp} {w : World} (h : Ent l w) => Right_shape (kw := kw) (vw := vw) h
  cases hr : rightN kw vw with
  | false =>
    have R := SL.hid (show fanN kw vw = 0 by rw [fanN, hr]; rfl)
    rw [hr] at hM
    clear hr
    go_enter Try.func32, Try.ntmps32
    go_wp2_with (first
      | go_skip
      | ((with_reducible (show Go.wpList _ _ _ (Go.Oper.mk _ (.box _ _) _ _ _ _ :: _) _ _)); refine wpl_box hE rfl rfl rfl ?_; clear hE; intro b1 w hE; simp only [Act.eval, Act.put, List.setIfInBounds_toArray, List.set_cons_zero, List.set_cons_succ, getD_lit, List.getD_cons_succ, List.getD_cons_zero, Value.cells] at hE)
      | ((with_reducible (show Go.wpList _ _ _ (Go.Oper.mk _ (.load _ (.tmp 1)) _ _ _ _ :: _) _ _)); refine wpl_loadW hE 0 rfl rfl rfl rfl Try.isAgg62 Try.sizeOf62 (xs := [.int .i64 kw, .int .i64 vw]) rfl ?_)
      | (go_at_call 28; refine (hM hE).mono ?_; clear hE; rintro e w2 ⟨v, rfl, rfl, hE⟩)
      | ((with_reducible (show Go.wpList _ _ _ (Go.Oper.mk _ (.load _ _) _ _ _ _ :: _) _ _)); first | (refine wpl_load1 hE 0 rfl rfl rfl rfl (by simp [go_sem]) rfl ?_) | (refine wpl_load1 hE 1 rfl rfl rfl rfl (by simp [go_sem]) rfl ?_) | (refine wpl_load1 hE 2 rfl rfl rfl rfl (by simp [go_sem]) rfl ?_) | (refine wpl_load1 hE 3 rfl rfl rfl rfl (by simp [go_sem]) rfl ?_) | (refine wpl_load1 hE 4 rfl rfl rfl rfl (by simp [go_sem]) rfl ?_) | (refine wpl_load1 hE 5 rfl rfl rfl rfl (by simp [go_sem]) rfl ?_)))
    go_ret
    exact ⟨_, rfl, by rw [R.out]; rfl, hE.tail⟩
  | true =>
    have R := SL.hid (show fanN kw vw = (508 + kw) / (kw + 2) by rw [fanN, hr]; rfl)
    obtain ⟨k1, k2, k3, k4⟩ := rightN_iff.1 hr
    rw [hr] at hM
    clear hr
    go_enter Try.func32, Try.ntmps32
    go_wp2_with (first
      | go_skip
      | ((with_reducible (show Go.wpList _ _ _ (Go.Oper.mk _ (.box _ _) _ _ _ _ :: _) _ _)); refine wpl_box hE rfl rfl rfl ?_; clear hE; intro b1 w hE; simp only [Act.eval, Act.put, List.setIfInBounds_toArray, List.set_cons_zero, List.set_cons_succ, getD_lit, List.getD_cons_succ, List.getD_cons_zero, Value.cells] at hE)
      | ((with_reducible (show Go.wpList _ _ _ (Go.Oper.mk _ (.load _ (.tmp 1)) _ _ _ _ :: _) _ _)); refine wpl_loadW hE 0 rfl rfl rfl rfl Try.isAgg62 Try.sizeOf62 (xs := [.int .i64 kw, .int .i64 vw]) rfl ?_)
      | (go_at_call 28; refine (hM hE).mono ?_; clear hE; rintro e w2 ⟨v, rfl, rfl, hE⟩)
      | ((with_reducible (show Go.wpList _ _ _ (Go.Oper.mk _ (.load _ _) _ _ _ _ :: _) _ _)); first | (refine wpl_load1 hE 0 rfl rfl rfl rfl (by simp [go_sem]) rfl ?_) | (refine wpl_load1 hE 1 rfl rfl rfl rfl (by simp [go_sem]) rfl ?_) | (refine wpl_load1 hE 2 rfl rfl rfl rfl (by simp [go_sem]) rfl ?_) | (refine wpl_load1 hE 3 rfl rfl rfl rfl (by simp [go_sem]) rfl ?_) | (refine wpl_load1 hE 4 rfl rfl rfl rfl (by simp [go_sem]) rfl ?_) | (refine wpl_load1 hE 5 rfl rfl rfl rfl (by simp [go_sem]) rfl ?_)))
    go_loopw [3] (fun n wr => FanRel (kw + 2) (pt b1 (.cells #[.int .i64 kw, .int .i64 vw] 62) :: l) n wr) (fun n _ => 600 - (intOf n).toNat)
    case atStart => exact ⟨0, by simp; omega, rfl, hE⟩
    case round =>
      clear hE
      obtain ⟨k, hks, rfl, hE⟩ := hrel
      obtain ⟨p, hp⟩ : ∃ p : Int, p = k * kw := ⟨_, rfl⟩
      have hps : (k : Int) * (kw + 2) = p + 2 * k := by rw [hp, Int.mul_add]; omega
      have hp0 : 0 ≤ p := by rw [hp]; exact Int.mul_nonneg (by omega) (by omega)
      have hk5 : (k : Int) ≤ 300 := by omega
      have hp1 : p ≤ 1000 := by omega
      have Hps := SL.hid hps
      have Hks := SL.hid hks
      have w3 : IntKind.i64.wrap ((k : Int) * kw) = p := by rw [← hp]; exact wrap_id (by omega)
      clear hp hps hks
      by_cases hc : 2 * ((k : Int) + 1) + p ≤ 508
      · have hcd : decide (2 * ((k : Int) + 1) + p ≤ 508) = true := decide_eq_true hc
        go_wp2_with (first
          | go_skip
          | ((with_reducible (show Go.wpList _ _ _ (Go.Oper.mk _ (.load _ _) _ _ _ _ :: _) _ _)); first | (refine wpl_load1 hE 0 rfl rfl rfl rfl (by simp [go_sem]) rfl ?_) | (refine wpl_load1 hE 1 rfl rfl rfl rfl (by simp [go_sem]) rfl ?_) | (refine wpl_load1 hE 2 rfl rfl rfl rfl (by simp [go_sem]) rfl ?_) | (refine wpl_load1 hE 3 rfl rfl rfl rfl (by simp [go_sem]) rfl ?_) | (refine wpl_load1 hE 4 rfl rfl rfl rfl (by simp [go_sem]) rfl ?_) | (refine wpl_load1 hE 5 rfl rfl rfl rfl (by simp [go_sem]) rfl ?_)))
        go_roundw
        case rel => exact ⟨k + 1, by have := Hps.out; push_cast; rw [Int.add_mul, Int.one_mul]; omega, by first | rfl | simp, hE⟩
        case measure => simp [intOf]; omega
      · have hcd : decide (2 * ((k : Int) + 1) + p ≤ 508) = false := decide_eq_false hc
        have Hk := SL.hid (show fanN kw vw = (k : Int) by
          have h1 := Hps.out
          have h2 := Hks.out
          rw [R.out]
          refine Int.le_antisymm ?_ (Int.le_ediv_of_mul_le (by omega) (by omega))
          refine Int.le_of_lt_add_one (Int.ediv_lt_of_lt_mul (by omega) ?_)
          rw [Int.add_mul, Int.one_mul]
          omega)
        go_wp2_with (first
          | go_skip
          | ((with_reducible (show Go.wpList _ _ _ (Go.Oper.mk _ (.load _ _) _ _ _ _ :: _) _ _)); first | (refine wpl_load1 hE 0 rfl rfl rfl rfl (by simp [go_sem]) rfl ?_) | (refine wpl_load1 hE 1 rfl rfl rfl rfl (by simp [go_sem]) rfl ?_) | (refine wpl_load1 hE 2 rfl rfl rfl rfl (by simp [go_sem]) rfl ?_) | (refine wpl_load1 hE 3 rfl rfl rfl rfl (by simp [go_sem]) rfl ?_) | (refine wpl_load1 hE 4 rfl rfl rfl rfl (by simp [go_sem]) rfl ?_) | (refine wpl_load1 hE 5 rfl rfl rfl rfl (by simp [go_sem]) rfl ?_)))
        go_ret
        exact ⟨_, rfl, by rw [Hk.out]; rfl, hE.tail⟩
end Go.Proofs.Ytohdljcpaogokaa
