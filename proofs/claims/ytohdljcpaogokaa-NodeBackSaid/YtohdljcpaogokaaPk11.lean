/-
  Proved here, with no condition but the lengths that are named: the opener's reader of names at every input.
-/
import Derived.Test.YtohdljcpaogokaaPk10
namespace Go.Proofs.Ytohdljcpaogokaa
open Go.RowKit Go.SL

def nameS (bs : List UInt8) (err : Int) : List UInt8 := if err == 0 && nameOk bs then bs.tail.take bs.head!.toNat else []
def nameB (bs : List UInt8) (err : Int) : List UInt8 := if err == 0 && nameOk bs then bs.tail.drop bs.head!.toNat else bs
def nameE (bs : List UInt8) (err : Int) : Int := if err == 0 && !nameOk bs then 3 else err

theorem oTake_one {l : List HProp} {w : World} {o : Nat} {c : UInt8} {r : List UInt8} (hE : Ent (opener o (c :: r) 0 :: l) w) (hb : r.length ≤ 1099511627775) :
    Calls Try.prog 55 #[.pointer (some ⟨o, 0, none⟩), .int .i64 1] w (Ret fun v w' => v = .int .u64 (c.toNat : Int) ∧ Ent (opener o r 0 :: l) w') := by
  have h := oTake_any hE (by simp; omega) 1
  have e : tkOk (wideN 1) (c :: r) 0 = true := by simp [wideN, wideB, tkOk]; omega
  have e2 : valT true (c :: r) (wideN 1) = c.toNat := by simp [valT, wideN, wideB, beVal]
  have e3 : tkB (wideN 1) (c :: r) 0 = r := by simp [tkB, e]; simp [wideN, wideB]
  have e4 : tkE (wideN 1) (c :: r) 0 = 0 := by simp [tkE, wideN, wideB]; omega
  rw [e, e2, e3, e4] at h
  exact h

theorem oTake_dead {l : List HProp} {w : World} {o : Nat} {bs : List UInt8} {err : Int} (he : (err == 0) = false) (hE : Ent (opener o bs err :: l) w) (hb : bs.length ≤ 1099511627776) (width : Int) :
    Calls Try.prog 55 #[.pointer (some ⟨o, 0, none⟩), .int .i64 width] w (Ret fun v w' => v = .int .u64 0 ∧ Ent (opener o bs err :: l) w') := by
  have h := oTake_any hE hb width
  have e : tkOk (wideN width) bs err = false := by simp [tkOk, he]
  have e2 : valT false bs (wideN width) = 0 := rfl
  have e3 : tkB (wideN width) bs err = bs := by simp [tkB, e]
  have e4 : tkE (wideN width) bs err = err := by simp [tkE, he]
  rw [e, e2, e3, e4] at h
  exact h

theorem oText_dead {l : List HProp} {w : World} {o : Nat} {bs : List UInt8} {err : Int} (he : (err == 0) = false) (hE : Ent (opener o bs err :: l) w) (hb : bs.length ≤ 1099511627776) (n : Int) :
    Calls Try.prog 56 #[.pointer (some ⟨o, 0, none⟩), .int .i64 n] w (Ret fun v w' => v = .string ⟨#[]⟩ ∧ Ent (opener o bs err :: l) w') := by
  have h := oText_any hE hb n
  have e : tkOk n bs err = false := by simp [tkOk, he]
  have e2 : strT false bs n = [] := rfl
  have e3 : tkB n bs err = bs := by simp [tkB, e]
  have e4 : tkE n bs err = err := by simp [tkE, he]
  rw [e, e2, e3, e4] at h
  exact h

theorem oText_neg {l : List HProp} {w : World} {o : Nat} {bs : List UInt8} (hE : Ent (opener o bs 0 :: l) w) (hb : bs.length ≤ 1099511627776) :
    Calls Try.prog 56 #[.pointer (some ⟨o, 0, none⟩), .int .i64 (-1)] w (Ret fun v w' => v = .string ⟨#[]⟩ ∧ Ent (opener o bs 3 :: l) w') := by
  have h := oText_any hE hb (-1)
  have e : tkOk (-1) bs 0 = false := by simp [tkOk]
  have e2 : strT false bs (-1) = [] := rfl
  have e3 : tkB (-1) bs 0 = bs := by simp [tkB, e]
  have e4 : tkE (-1) bs 0 = 3 := by simp [tkE]
  rw [e, e2, e3, e4] at h
  exact h

theorem oText_ok {l : List HProp} {w : World} {o : Nat} {bs : List UInt8} (hE : Ent (opener o bs 0 :: l) w) (hb : bs.length ≤ 1099511627776) (n : Nat) (hn : n ≤ bs.length) :
    Calls Try.prog 56 #[.pointer (some ⟨o, 0, none⟩), .int .i64 n] w (Ret fun v w' => v = .string ⟨(bs.take n).toArray⟩ ∧ Ent (opener o (bs.drop n) 0 :: l) w') := by
  have h := oText_any hE hb n
  have e : tkOk n bs 0 = true := by simp [tkOk, hn]
  have e2 : strT true bs n = bs.take n := by simp [strT]
  have e3 : tkB n bs 0 = bs.drop n := by simp [tkB, e]
  have e4 : tkE n bs 0 = 0 := by simp [tkE, hn]
  rw [e, e2, e3, e4] at h
  exact h

theorem oTake_empty {l : List HProp} {w : World} {o : Nat} (hE : Ent (opener o [] 0 :: l) w) :
    Calls Try.prog 55 #[.pointer (some ⟨o, 0, none⟩), .int .i64 1] w (Ret fun v w' => v = .int .u64 0 ∧ Ent (opener o [] 3 :: l) w') := by
  have h := oTake_any hE (by simp) 1
  exact h


set_option maxRecDepth 100000 in
theorem oName_long {l : List HProp} {w : World} {o : Nat} {c : UInt8} {r : List UInt8} (hlt : decide (r.length < c.toNat) = true) (hE : Ent (opener o (c :: r) 0 :: l) w) (hb : r.length ≤ 1099511627775) :
    Calls Try.prog 57 #[.pointer (some ⟨o, 0, none⟩)] w (Ret fun v w' => v = .string ⟨([] : List UInt8).toArray⟩ ∧ Ent (opener o (c :: r) 3 :: l) w') := by
  have hE0 := hE
  obtain ⟨ao, cp, hc, hE⟩ := opener_open hE
  obtain ⟨b, off, rfl, hrd⟩ := reads_form (hE.views 1 rfl) (by simp) (by simp [bvals])
  have c0 : w.cell? ⟨o, 0, none⟩ = some (.slice (some ⟨b, off, none⟩) (c :: r).length cp) := hE.cell 0 rfl 0
  have c1 : w.cell? ⟨b, off, none⟩ = some (.int .u8 (c.toNat : Int)) := hrd 0 _ rfl
  clear hrd hE hc
  have hg : decide ((0 : Int) < ((c :: r).length : Int)) = true := by simp
  have hc8 : (c.toNat : Int) < 256 := by have := c.toNat_lt; omega
  go_enter Try.func57, Try.ntmps57
  go_wp2_with (fail)
  go_quiet ((go_at_call 51; exact Calls.quiet_of_same ((Left_any (hE0.drewN _)).mono (fun e w' h => ⟨h.1, h.2.symm⟩))))
  have hE := hE0.drewN nq
  clear c0 c1
  go_wp2_with (first | (go_at_call 56; refine (oText_neg hE (by simp; omega)).mono ?_; rintro e w2 ⟨v, rfl, rfl, hE⟩))
  go_ret
  exact ⟨_, rfl, rfl, hE⟩

set_option maxRecDepth 100000 in
theorem oName_long_dead {l : List HProp} {w : World} {o : Nat} {c : UInt8} {r : List UInt8} {err : Int} (he : (err == 0) = false) (hlt : decide (r.length < c.toNat) = true) (hE : Ent (opener o (c :: r) err :: l) w) (hb : r.length ≤ 1099511627775) :
    Calls Try.prog 57 #[.pointer (some ⟨o, 0, none⟩)] w (Ret fun v w' => v = .string ⟨([] : List UInt8).toArray⟩ ∧ Ent (opener o (c :: r) err :: l) w') := by
  have hE0 := hE
  obtain ⟨ao, cp, hc, hE⟩ := opener_open hE
  obtain ⟨b, off, rfl, hrd⟩ := reads_form (hE.views 1 rfl) (by simp) (by simp [bvals])
  have c0 : w.cell? ⟨o, 0, none⟩ = some (.slice (some ⟨b, off, none⟩) (c :: r).length cp) := hE.cell 0 rfl 0
  have c1 : w.cell? ⟨b, off, none⟩ = some (.int .u8 (c.toNat : Int)) := hrd 0 _ rfl
  clear hrd hE hc
  have hg : decide ((0 : Int) < ((c :: r).length : Int)) = true := by simp
  have hc8 : (c.toNat : Int) < 256 := by have := c.toNat_lt; omega
  go_enter Try.func57, Try.ntmps57
  go_wp2_with (fail)
  go_quiet ((go_at_call 51; exact Calls.quiet_of_same ((Left_any (hE0.drewN _)).mono (fun e w' h => ⟨h.1, h.2.symm⟩))))
  have hE := hE0.drewN nq
  clear c0 c1
  go_wp2_with (first | (go_at_call 56; refine (oText_dead he hE (by simp; omega) _).mono ?_; rintro e w2 ⟨v, rfl, rfl, hE⟩))
  go_ret
  exact ⟨_, rfl, rfl, hE⟩

set_option maxRecDepth 100000 in
theorem oName_ok {l : List HProp} {w : World} {o : Nat} {c : UInt8} {r : List UInt8} (hlt : decide (r.length < c.toNat) = false) (hE : Ent (opener o (c :: r) 0 :: l) w) (hb : r.length ≤ 1099511627775) :
    Calls Try.prog 57 #[.pointer (some ⟨o, 0, none⟩)] w (Ret fun v w' => v = .string ⟨(r.take c.toNat).toArray⟩ ∧ Ent (opener o (r.drop c.toNat) 0 :: l) w') := by
  have hE0 := hE
  obtain ⟨ao, cp, hc, hE⟩ := opener_open hE
  obtain ⟨b, off, rfl, hrd⟩ := reads_form (hE.views 1 rfl) (by simp) (by simp [bvals])
  have c0 : w.cell? ⟨o, 0, none⟩ = some (.slice (some ⟨b, off, none⟩) (c :: r).length cp) := hE.cell 0 rfl 0
  have c1 : w.cell? ⟨b, off, none⟩ = some (.int .u8 (c.toNat : Int)) := hrd 0 _ rfl
  clear hrd hE hc
  have hg : decide ((0 : Int) < ((c :: r).length : Int)) = true := by simp
  have hc8 : (c.toNat : Int) < 256 := by have := c.toNat_lt; omega
  go_enter Try.func57, Try.ntmps57
  go_wp2_with (fail)
  go_quiet ((go_at_call 51; exact Calls.quiet_of_same ((Left_any (hE0.drewN _)).mono (fun e w' h => ⟨h.1, h.2.symm⟩))))
  have hE := hE0.drewN nq
  clear c0 c1
  go_wp2_with (first | (go_at_call 55; refine (oTake_one hE hb).mono ?_; rintro e w2 ⟨v, rfl, rfl, hE⟩) | (go_at_call 56; refine (oText_ok hE (by omega) c.toNat (by simpa using hlt)).mono ?_; rintro e w2 ⟨v, rfl, rfl, hE⟩))
  go_ret
  exact ⟨_, rfl, rfl, hE⟩

set_option maxRecDepth 100000 in
theorem oName_dead {l : List HProp} {w : World} {o : Nat} {c : UInt8} {r : List UInt8} {err : Int} (he : (err == 0) = false) (hlt : decide (r.length < c.toNat) = false) (hE : Ent (opener o (c :: r) err :: l) w) (hb : r.length ≤ 1099511627775) :
    Calls Try.prog 57 #[.pointer (some ⟨o, 0, none⟩)] w (Ret fun v w' => v = .string ⟨([] : List UInt8).toArray⟩ ∧ Ent (opener o (c :: r) err :: l) w') := by
  have hE0 := hE
  obtain ⟨ao, cp, hc, hE⟩ := opener_open hE
  obtain ⟨b, off, rfl, hrd⟩ := reads_form (hE.views 1 rfl) (by simp) (by simp [bvals])
  have c0 : w.cell? ⟨o, 0, none⟩ = some (.slice (some ⟨b, off, none⟩) (c :: r).length cp) := hE.cell 0 rfl 0
  have c1 : w.cell? ⟨b, off, none⟩ = some (.int .u8 (c.toNat : Int)) := hrd 0 _ rfl
  clear hrd hE hc
  have hg : decide ((0 : Int) < ((c :: r).length : Int)) = true := by simp
  have hc8 : (c.toNat : Int) < 256 := by have := c.toNat_lt; omega
  go_enter Try.func57, Try.ntmps57
  go_wp2_with (fail)
  go_quiet ((go_at_call 51; exact Calls.quiet_of_same ((Left_any (hE0.drewN _)).mono (fun e w' h => ⟨h.1, h.2.symm⟩))))
  have hE := hE0.drewN nq
  clear c0 c1
  go_wp2_with (first | (go_at_call 55; refine (oTake_dead he hE (by simp; omega) _).mono ?_; rintro e w2 ⟨v, rfl, rfl, hE⟩) | (go_at_call 56; refine (oText_dead he hE (by simp; omega) _).mono ?_; rintro e w2 ⟨v, rfl, rfl, hE⟩))
  go_ret
  exact ⟨_, rfl, rfl, hE⟩

set_option maxRecDepth 100000 in
theorem oName_empty {l : List HProp} {w : World} {o : Nat}  (hE : Ent (opener o [] 0 :: l) w) :
    Calls Try.prog 57 #[.pointer (some ⟨o, 0, none⟩)] w (Ret fun v w' => v = .string ⟨#[]⟩ ∧ Ent (opener o [] 3 :: l) w') := by
  have hE0 := hE
  go_enter Try.func57, Try.ntmps57
  go_wp2_with (fail)
  go_quiet ((go_at_call 51; exact Calls.quiet_of_same ((Left_any (hE0.drewN _)).mono (fun e w' h => ⟨h.1, h.2.symm⟩))))
  have hE := hE0.drewN nq
  go_wp2_with (first | (go_at_call 55; refine (oTake_empty hE).mono ?_; rintro e w2 ⟨v, rfl, rfl, hE⟩) | (go_at_call 56; refine (oText_dead (by decide) hE (by simp) _).mono ?_; rintro e w2 ⟨v, rfl, rfl, hE⟩))
  go_ret
  exact ⟨_, rfl, rfl, hE⟩

set_option maxRecDepth 100000 in
theorem oName_empty_dead {l : List HProp} {w : World} {o : Nat} {err : Int} (he : (err == 0) = false) (hE : Ent (opener o [] err :: l) w) :
    Calls Try.prog 57 #[.pointer (some ⟨o, 0, none⟩)] w (Ret fun v w' => v = .string ⟨#[]⟩ ∧ Ent (opener o [] err :: l) w') := by
  have hE0 := hE
  go_enter Try.func57, Try.ntmps57
  go_wp2_with (fail)
  go_quiet ((go_at_call 51; exact Calls.quiet_of_same ((Left_any (hE0.drewN _)).mono (fun e w' h => ⟨h.1, h.2.symm⟩))))
  have hE := hE0.drewN nq
  go_wp2_with (first | (go_at_call 55; refine (oTake_dead he hE (by simp) _).mono ?_; rintro e w2 ⟨v, rfl, rfl, hE⟩) | (go_at_call 56; refine (oText_dead he hE (by simp) _).mono ?_; rintro e w2 ⟨v, rfl, rfl, hE⟩))
  go_ret
  exact ⟨_, rfl, rfl, hE⟩

theorem oName_nil (w : World) : Calls Try.prog 57 #[.pointer none] w (Ret fun v w' => v = .string ⟨#[]⟩ ∧ ∀ l, Ent l w → Ent l w') := by
  go_enter Try.func57, Try.ntmps57
  go_wp2_with (fail)
  go_quiet ((go_at_call 51; exact Calls.quiet_of_same ((Left_nil _).mono (fun e w' h => ⟨h.1, h.2.symm⟩))))
  go_wp2_with (first | (go_at_call 55; refine (oTake_nil _ rfl _).mono ?_; rintro e w2 ⟨rfl, rfl⟩) | (go_at_call 56; refine (oText_nil _ _).mono ?_; rintro e w2 ⟨rfl, rfl⟩))
  go_ret
  exact ⟨_, rfl, rfl, fun l h => h.drewN _⟩

theorem oName_any {l : List HProp} {w : World} {o : Nat} {bs : List UInt8} {err : Int} (hE : Ent (opener o bs err :: l) w) (hb : bs.length ≤ 1099511627776) :
    Calls Try.prog 57 #[.pointer (some ⟨o, 0, none⟩)] w (Ret fun v w' => v = .string ⟨(nameS bs err).toArray⟩ ∧ Ent (opener o (nameB bs err) (nameE bs err) :: l) w') := by
  cases bs with
  | nil =>
    cases he : (err == 0) with
    | true =>
      obtain rfl : err = 0 := by simpa using he
      exact oName_empty hE
    | false =>
      have := oName_empty_dead he hE
      simpa [nameS, nameB, nameE, he] using this
  | cons c r =>
    have hr : r.length ≤ 1099511627775 := by simp at hb; omega
    cases he : (err == 0) with
    | true =>
      obtain rfl : err = 0 := by simpa using he
      cases hlt : decide (r.length < c.toNat) with
      | true =>
        have hn : nameOk (c :: r) = false := by simpa [nameOk] using hlt
        have := oName_long hlt hE hr
        simpa [nameS, nameB, nameE, hn] using this
      | false =>
        have hn : nameOk (c :: r) = true := by simpa [nameOk] using hlt
        have h := oName_ok hlt hE hr
        have e1 : nameS (c :: r) 0 = r.take c.toNat := by unfold nameS; rw [hn]; rfl
        have e2 : nameB (c :: r) 0 = r.drop c.toNat := by unfold nameB; rw [hn]; rfl
        have e3 : nameE (c :: r) 0 = 0 := by unfold nameE; rw [hn]; rfl
        rw [e1, e2, e3]
        exact h
    | false =>
      cases hlt : decide (r.length < c.toNat) with
      | true =>
        have := oName_long_dead he hlt hE hr
        simpa [nameS, nameB, nameE, he] using this
      | false =>
        have := oName_dead he hlt hE hr
        simpa [nameS, nameB, nameE, he] using this
