/-
  The check of known bytes of the layer pack always holds: the packer and the opener answer at the fixed inputs as the text of the laws says.
-/
import Derived.Test.YtpchnmcofkffiaaPk11
namespace Go.Proofs.Ytpchnmcofkffiaa
open Go.RowKit Go.SL

theorem wk_put2 {l : List HProp} {w : World} {p : Nat} (hE : Ent (packer p [] 0 :: l) w) :
    Calls Try.prog 17 #[.pointer (some ⟨p, 0, none⟩), .int .i64 2, .int .u64 258] w (Ret fun v w' => v = .pointer (some ⟨p, 0, none⟩) ∧ Ent (packer p [1, 2] 0 :: l) w') := by
  have h := Put_any p 258 2 hE (by simp)
  have e1 : pbs (numOk 2 258) [] (be (2 : Int).toNat 258) = [1, 2] := by decide
  have e2 : perr (numOk 2 258) 0 = 0 := by decide
  rw [e1, e2] at h
  exact h

theorem wk_put1 {l : List HProp} {w : World} {p o : Nat} {bs : List UInt8} {err : Int} (hE : Ent (packer p [] 0 :: opener o bs err :: l) w) :
    Calls Try.prog 17 #[.pointer (some ⟨p, 0, none⟩), .int .i64 1, .int .u64 256] w (Ret fun v w' => v = .pointer (some ⟨p, 0, none⟩) ∧ Ent (packer p [] 6 :: opener o bs err :: l) w') := by
  have h := Put_any p 256 1 hE (by simp)
  have e1 : pbs (numOk 1 256) [] (be (1 : Int).toNat 256) = [] := by decide
  have e2 : perr (numOk 1 256) 0 = 6 := by decide
  rw [e1, e2] at h
  exact h

theorem wk_name {l : List HProp} {w : World} {p : Nat} (hE : Ent (packer p [1, 2] 0 :: l) w) :
    Calls Try.prog 20 #[.pointer (some ⟨p, 0, none⟩), .string ⟨#[97, 98]⟩] w (Ret fun v w' => v = .pointer (some ⟨p, 0, none⟩) ∧ Ent (packer p [1, 2, 2, 97, 98] 0 :: l) w') :=
  Name_ok p [97, 98] (by decide) hE (by decide)

theorem wk_take {l : List HProp} {w : World} {o : Nat} (hE : Ent (opener o [1, 2, 2, 97, 98] 0 :: l) w) :
    Calls Try.prog 21 #[.pointer (some ⟨o, 0, none⟩), .int .i64 2] w (Ret fun v w' => v = .int .u64 258 ∧ Ent (opener o [2, 97, 98] 0 :: l) w') := by
  have h := oTake_any hE (by decide) 2
  have e0 : wideN 2 = 2 := by decide
  have e : tkOk 2 [1, 2, 2, 97, 98] 0 = true := by decide
  have e2 : valT true [1, 2, 2, 97, 98] 2 = 258 := by decide
  have e3 : tkB 2 [1, 2, 2, 97, 98] 0 = [2, 97, 98] := by decide
  have e4 : tkE 2 [1, 2, 2, 97, 98] 0 = 0 := by decide
  rw [e0, e, e2, e3, e4] at h
  exact h

theorem wk_oname {l : List HProp} {w : World} {o : Nat} (hE : Ent (opener o [2, 97, 98] 0 :: l) w) :
    Calls Try.prog 24 #[.pointer (some ⟨o, 0, none⟩)] w (Ret fun v w' => v = .string ⟨#[97, 98]⟩ ∧ Ent (opener o [] 0 :: l) w') := by
  have h := oName_any hE (by decide)
  have e2 : nameS [2, 97, 98] 0 = [97, 98] := by decide
  have e3 : nameB [2, 97, 98] 0 = [] := by decide
  have e4 : nameE [2, 97, 98] 0 = 0 := by decide
  rw [e2, e3, e4] at h
  exact h

theorem wk_end {l : List HProp} {w : World} {o : Nat} (hE : Ent (opener o [] 0 :: l) w) :
    Calls Try.prog 27 #[.pointer (some ⟨o, 0, none⟩)] w (fun e w' => e = .returned (.int .i64 0) ∧ w = w') := End_any hE

set_option maxRecDepth 100000 in
theorem wakes1_any {l : List HProp} {w : World} (hE : Ent l w) :
    Calls Try.prog 12 #[] w (Ret fun v w' => v = .bool true ∧ Ent l w') := by
  go_enter Try.func12, Try.ntmps12
  go_wp2_with (first
    | (go_skip)
    | (go_at_call 29; have H := New_any hE; refine H.mono ?_; clear H; rintro e w2 ⟨v, rfl, p, rfl, hE⟩)
    | (go_at_call 17; have H := wk_put1 hE; refine H.mono ?_; clear H; rintro e w2 ⟨v, rfl, rfl, hE⟩)
    | (go_at_call 17; have H := wk_put2 hE; refine H.mono ?_; clear H; rintro e w2 ⟨v, rfl, rfl, hE⟩)
    | (go_at_call 20; have H := wk_name hE; refine H.mono ?_; clear H; rintro e w2 ⟨v, rfl, rfl, hE⟩)
    | (go_at_call 16; have H := Bytes_ok hE (by simp); refine H.mono ?_; clear H; rintro e w2 ⟨v, rfl, ao, c, rfl, hE⟩)
    | (go_at_call 16; have H := Bytes_err (by decide) hE; refine H.mono ?_; clear H; rintro e w2 ⟨v, rfl, rfl, hE⟩)
    | (go_at_call 28; refine (Of_any (bs := [1, 2, 2, 97, 98]) hE (fun w h => reads_row h 0 rfl) (by simp)).mono ?_; rintro e w2 ⟨v, rfl, o, rfl, hE⟩)
    | (go_at_call 21; have H := wk_take hE; refine H.mono ?_; clear H; rintro e w2 ⟨v, rfl, rfl, hE⟩)
    | (go_at_call 24; have H := wk_oname hE; refine H.mono ?_; clear H; rintro e w2 ⟨v, rfl, rfl, hE⟩)
    | (refine wpl_bytesStr (bs := [1, 2, 2, 97, 98]) rfl rfl rfl Try.underlying33 Try.underlying5 Try.underlying9 (reads_row hE 2 rfl) rfl ?_)
    | (go_at_call 27; have H := wk_end (hE.front 1 rfl); refine H.mono ?_; clear H; rintro e w2 ⟨rfl, rfl⟩))
  go_ret
  exact ⟨_, rfl, rfl, hE.tail.tail.tail.tail⟩
end Go.Proofs.Ytpchnmcofkffiaa
