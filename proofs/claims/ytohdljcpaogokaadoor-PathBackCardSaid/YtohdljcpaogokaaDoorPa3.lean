/-
  Names, the program's and the document's.
-/
import Derived.Test.YtohdljcpaogokaaDoorPa2
import Derived.Test.YtohdljcpaogokaaDoorSli
namespace Go.Proofs.YtohdljcpaogokaaDoor
open Go.RowKit Go.SL

theorem str_at (s : List UInt8) (k : Nat) (hb : k < (⟨s.toArray⟩ : ByteArray).size) : (⟨s.toArray⟩ : ByteArray)[k]'hb = s.getD k 0 := by
  have hk : k < s.length := by rwa [bytes_size] at hb
  rw [List.getD_eq_getElem?_getD, List.getElem?_eq_getElem hk]
  rfl
set_option maxRecDepth 100000 in
set_option maxHeartbeats 1000000 in
theorem good_any (c : UInt8) (w : World) : Calls Tryd.prog 29 #[.int .u8 c.toNat] w (fun e w' => e = .returned (.bool (goodB c)) ∧ w = w') := by
  have h : goodB c = (decide ((33 : Int) ≤ (c.toNat : Int)) && (decide ((c.toNat : Int) ≤ 126) && ((c.toNat : Int) != 47))) := by
    have e : (c != 47) = ((c.toNat : Int) != 47) := by
      rw [Bool.eq_iff_iff]
      simp [← UInt8.toNat_inj]
      omega
    rw [goodB, e]
    congr 1
    · exact decide_eq_decide.2 (by omega)
    · congr 1
      exact decide_eq_decide.2 (by omega)
  have H := SL.hid h
  clear h
  have h47 : (⟨#[47]⟩ : ByteArray)[0]'(by decide) = 47 := rfl
  generalize goodB c = g at *
  generalize c.toNat = n at *
  cases h1 : decide ((33 : Int) ≤ (n : Int)) with
  | false =>
    have R := SL.hid (show g = false by rw [H.out, h1]; rfl)
    go_enter Tryd.func29, Tryd.ntmps29
    go_wp2_with (first | go_skip)
    go_ret
    exact ⟨by rw [R.out]; rfl, rfl⟩
  | true =>
    cases h2 : decide ((n : Int) ≤ 126) with
    | false =>
      have R := SL.hid (show g = false by rw [H.out, h1, h2]; rfl)
      go_enter Tryd.func29, Tryd.ntmps29
      go_wp2_with (first | go_skip)
      go_ret
      exact ⟨by rw [R.out]; rfl, rfl⟩
    | true =>
      cases h3 : ((n : Int) != 47)
      all_goals
        have R := SL.hid (H.out.trans (show _ = ((n : Int) != 47) by rw [h1, h2]; rfl))
        rw [h3] at R
        go_enter Tryd.func29, Tryd.ntmps29
        go_wp2_with (first | go_skip)
        go_ret
        exact ⟨by rw [R.out]; rfl, rfl⟩

def NmRel (s : List UInt8) (i : Value) : Prop := ∃ k : Nat, k ≤ s.length ∧ i = .int .i64 k ∧ (s.take k).all goodB = true
theorem all_step {s : List UInt8} {k : Nat} (h : k < s.length) (ha : (s.take k).all goodB = true) : (goodB (s.getD k 0) = true → (s.take (k + 1)).all goodB = true) ∧ (goodB (s.getD k 0) = false → isName s = false) := by
  have e : s.getD k 0 = s[k] := by rw [List.getD_eq_getElem?_getD, List.getElem?_eq_getElem h]; rfl
  rw [e]
  refine ⟨fun hg => ?_, fun hg => ?_⟩
  · rw [List.take_succ_eq_append_getElem h, List.all_append, ha]
    simp [hg]
  · have : s.all goodB = false := List.all_eq_false.2 ⟨_, List.getElem_mem h, by simp [hg]⟩
    rw [isName, this, Bool.false_and]
set_option maxRecDepth 100000 in
set_option maxHeartbeats 1000000 in
theorem Name_any (s : List UInt8) (hs : s.length ≤ 1099511627776) (w : World) : Calls Tryd.prog 11 #[.string ⟨s.toArray⟩] w (fun e w' => e = .returned (.bool (isName s)) ∧ w = w') := by
  go_enter Tryd.func11, Tryd.ntmps11
  go_wp2
  go_loop [7] (fun i => NmRel s i) (fun i => s.length - (intOf i).toNat)
  case atStart => exact ⟨0, Nat.zero_le _, rfl, rfl⟩
  case round =>
    obtain ⟨k, hkl, rfl, hall⟩ := hrel
    by_cases hlt : k < s.length
    · have hix := str_at s k (by rw [bytes_size]; exact hlt)
      have Hs := SL.hid (all_step hlt hall)
      have hg := fun w => good_any (s.getD k 0) w
      clear hall
      generalize s.getD k 0 = c at *
      cases hgc : goodB c with
      | false =>
        rw [hgc] at hg
        have R := SL.hid (Hs.out.2 hgc)
        clear hgc
        go_wp2_with (first
          | go_skip
          | (go_at_call 29; refine (hg _).mono ?_; rintro e w2 ⟨rfl, rfl⟩))
        go_ret
        exact ⟨by rw [R.out]; rfl, rfl⟩
      | true =>
        rw [hgc] at hg
        have R := SL.hid (Hs.out.1 hgc)
        clear hgc
        go_wp2_with (first
          | go_skip
          | (go_at_call 29; refine (hg _).mono ?_; rintro e w2 ⟨rfl, rfl⟩))
        go_round
        case rel => exact ⟨k + 1, hlt, by simp, R.out⟩
        case measure => simp [intOf]; omega
    · have ha : s.all goodB = true := by rwa [show k = s.length by omega, List.take_length] at hall
      have R := SL.hid (show isName s = (decide ((1 : Int) ≤ (s.length : Int)) && decide ((s.length : Int) ≤ 16)) by
        rw [isName, ha, Bool.true_and]
        congr 1
        · exact decide_eq_decide.2 (by omega)
        · exact decide_eq_decide.2 (by omega))
      clear hall ha
      have hlt' : decide (k < s.length) = false := decide_eq_false hlt
      clear hlt hkl
      cases h1 : decide ((1 : Int) ≤ (s.length : Int)) with
      | false =>
        have R1 := SL.hid (show isName s = false by rw [R.out, h1]; rfl)
        go_wp2_with (first | go_skip)
        go_ret
        exact ⟨by rw [R1.out]; rfl, rfl⟩
      | true =>
        have R1 := SL.hid (show isName s = decide ((s.length : Int) ≤ 16) by rw [R.out, h1]; rfl)
        cases h2 : decide ((s.length : Int) ≤ 16)
        all_goals
          rw [h2] at R1
          go_wp2_with (first | go_skip)
          go_ret
          exact ⟨by rw [R1.out]; rfl, rfl⟩

set_option maxRecDepth 100000 in
set_option maxHeartbeats 1000000 in
theorem rName_any (s : List UInt8) (hs : s.length ≤ 1099511627776) (w : World) : Calls Tryd.prog 12 #[.string ⟨s.toArray⟩] w (fun e w' => e = .returned (.bool (isName s)) ∧ w = w') := by
  go_enter Tryd.func12, Tryd.ntmps12
  go_wp2
  go_loop [3] (fun i => NmRel s i) (fun i => s.length - (intOf i).toNat)
  case atStart => exact ⟨0, Nat.zero_le _, rfl, rfl⟩
  case round =>
    obtain ⟨k, hkl, rfl, hall⟩ := hrel
    by_cases hlt : k < s.length
    · have hix := str_at s k (by rw [bytes_size]; exact hlt)
      have Hs := SL.hid (all_step hlt hall)
      have hgc : goodB (s.getD k 0) = !(decide (((s.getD k 0).toNat : Int) < 33) || (decide (126 < ((s.getD k 0).toNat : Int)) || (((s.getD k 0).toNat : Int) == 47))) := by
        generalize s.getD k 0 = c
        have e : (c != 47) = !((c.toNat : Int) == 47) := by
          rw [Bool.eq_iff_iff]
          simp [← UInt8.toNat_inj]
          omega
        rw [goodB, e]
        by_cases a1 : c.toNat < 33
        · have b1 : decide (33 ≤ c.toNat) = false := decide_eq_false (by omega)
          have b2 : decide ((c.toNat : Int) < 33) = true := decide_eq_true (by omega)
          rw [b1, b2]; rfl
        · have b1 : decide (33 ≤ c.toNat) = true := decide_eq_true (by omega)
          have b2 : decide ((c.toNat : Int) < 33) = false := decide_eq_false (by omega)
          rw [b1, b2]
          by_cases a3 : c.toNat ≤ 126
          · rw [decide_eq_true a3, decide_eq_false (show ¬ (126 : Int) < (c.toNat : Int) by omega)]; simp
          · rw [decide_eq_false a3, decide_eq_true (show (126 : Int) < (c.toNat : Int) by omega)]; simp
      have Hgc := SL.hid hgc
      clear hall hgc
      generalize goodB (s.getD k 0) = g at *
      generalize s.getD k 0 = cc at *
      generalize hn : cc.toNat = n at *
      cases h1 : decide ((n : Int) < 33) with
      | true =>
        have R := SL.hid (Hs.out.2 (by rw [Hgc.out, h1]; rfl))
        go_wp2_with (first | go_skip)
        go_ret
        exact ⟨by rw [R.out]; rfl, rfl⟩
      | false =>
        cases h2 : decide ((126 : Int) < (n : Int)) with
        | true =>
          have R := SL.hid (Hs.out.2 (by rw [Hgc.out, h1, h2]; rfl))
          go_wp2_with (first | go_skip)
          go_ret
          exact ⟨by rw [R.out]; rfl, rfl⟩
        | false =>
          cases h3 : ((n : Int) == 47) with
          | true =>
            have R := SL.hid (Hs.out.2 (by rw [Hgc.out, h1, h2, h3]; rfl))
            go_wp2_with (first | go_skip)
            go_ret
            exact ⟨by rw [R.out]; rfl, rfl⟩
          | false =>
            have R := SL.hid (Hs.out.1 (by rw [Hgc.out, h1, h2, h3]; rfl))
            go_wp2_with (first | go_skip)
            go_round
            case rel => exact ⟨k + 1, hlt, by simp, R.out⟩
            case measure => simp [intOf]; omega
    · have ha : s.all goodB = true := by rwa [show k = s.length by omega, List.take_length] at hall
      have R := SL.hid (show isName s = (decide (0 < s.length) && decide ((s.length : Int) < 17)) by
        rw [isName, ha, Bool.true_and]
        congr 1
        exact decide_eq_decide.2 (by omega))
      clear hall ha
      have hlt' : decide (k < s.length) = false := decide_eq_false hlt
      clear hlt hkl
      cases h1 : decide (0 < s.length) with
      | false =>
        have R1 := SL.hid (show isName s = false by rw [R.out, h1]; rfl)
        go_wp2_with (first | go_skip)
        go_ret
        exact ⟨by rw [R1.out]; rfl, rfl⟩
      | true =>
        have R1 := SL.hid (show isName s = decide ((s.length : Int) < 17) by rw [R.out, h1]; rfl)
        cases h2 : decide ((s.length : Int) < 17)
        all_goals
          rw [h2] at R1
          go_wp2_with (first | go_skip)
          go_ret
          exact ⟨by rw [R1.out]; rfl, rfl⟩
end Go.Proofs.YtohdljcpaogokaaDoor
