/-
  Proved here, with no condition but the lengths that are named: the common reader of the opener at every input; what is left, the error, and the end's error.
-/
import Derived.Test.YtohdljcpaogokaaPk8
namespace Go.Proofs.Ytohdljcpaogokaa
open Go.RowKit Go.SL

theorem tk_cases (n : Int) (bs : List UInt8) (err : Int) :
    ((err == 0) = false ∧ tkOk n bs err = false ∧ tkB n bs err = bs ∧ tkE n bs err = err) ∨ (err = 0 ∧ n < 0 ∧ tkOk n bs err = false ∧ tkB n bs err = bs ∧ tkE n bs err = 3) ∨
      (err = 0 ∧ 0 ≤ n ∧ (bs.length : Int) < n ∧ tkOk n bs err = false ∧ tkB n bs err = bs ∧ tkE n bs err = 3) ∨ (err = 0 ∧ ∃ k : Nat, n = k ∧ k ≤ bs.length ∧ tkOk n bs err = true ∧ tkB n bs err = bs.drop k ∧ tkE n bs err = 0) := by
  by_cases h0 : err = 0
  · right
    subst h0
    by_cases h1 : n < 0
    · left
      have : decide (0 ≤ n) = false := by simpa using h1
      simp [tkOk, tkB, tkE, this, h1]
    · have h1' : 0 ≤ n := by omega
      right
      by_cases h2 : (bs.length : Int) < n
      · left
        have e1 : decide (0 ≤ n) = true := by simpa using h1'
        have e2 : decide (n ≤ (bs.length : Int)) = false := by simpa using h2
        simp [tkOk, tkB, tkE, e1, e2, h1', h2]
      · right
        obtain ⟨k, rfl⟩ := Int.eq_ofNat_of_zero_le h1'
        have h2' : k ≤ bs.length := by omega
        refine ⟨rfl, k, rfl, h2', ?_⟩
        simp [tkOk, tkB, tkE, h2']
  · left
    have : (err == 0) = false := by simpa using h0
    simp [tkOk, tkB, tkE, this]

def valT (ok : Bool) (bs : List UInt8) (n : Int) : Nat := if ok then beVal (bs.take n.toNat) else 0
def strT (ok : Bool) (bs : List UInt8) (n : Int) : List UInt8 := if ok then bs.take n.toNat else []
def hashT (ok : Bool) (bs : List UInt8) (n : Int) : List UInt8 := if ok then bs.take n.toNat else hz

theorem take_uint64_any {l : List HProp} {w : World} {o : Nat} {bs : List UInt8} {err : Int} (hE : Ent (opener o bs err :: l) w) (hb : bs.length ≤ 1099511627776) (n : Int) :
    Calls Try.prog 91 #[.pointer (some ⟨o, 0, none⟩), .int .i64 n, .func (.func 92) #[] #[]] w (Ret fun v w' => v = .int .u64 (valT (tkOk n bs err) bs n) ∧ Ent (opener o (tkB n bs err) (tkE n bs err) :: l) w') := by
  rcases tk_cases n bs err with ⟨h0, h1, h2, h3⟩ | ⟨rfl, h0, h1, h2, h3⟩ | ⟨rfl, h0, h0', h1, h2, h3⟩ | ⟨rfl, k, rfl, hk, h1, h2, h3⟩
  · rw [h1, h2, h3]; exact take_uint64_err h0 hE n _
  · rw [h1, h2, h3]; exact take_uint64_neg hE n h0 _
  · rw [h1, h2, h3]; exact take_uint64_many hE n h0 h0' _
  · rw [h1, h2, h3]
    exact take_uint64_ok hE k hk _ Try.call92 (fun ys => .int .u64 (beVal ys)) (Take1_any k (by omega))

theorem take_string_any {l : List HProp} {w : World} {o : Nat} {bs : List UInt8} {err : Int} (hE : Ent (opener o bs err :: l) w) (hb : bs.length ≤ 1099511627776) (n : Int) :
    Calls Try.prog 93 #[.pointer (some ⟨o, 0, none⟩), .int .i64 n, .func (.func 94) #[] #[]] w (Ret fun v w' => v = .string ⟨(strT (tkOk n bs err) bs n).toArray⟩ ∧ Ent (opener o (tkB n bs err) (tkE n bs err) :: l) w') := by
  rcases tk_cases n bs err with ⟨h0, h1, h2, h3⟩ | ⟨rfl, h0, h1, h2, h3⟩ | ⟨rfl, h0, h0', h1, h2, h3⟩ | ⟨rfl, k, rfl, hk, h1, h2, h3⟩
  · rw [h1, h2, h3]; exact take_string_err h0 hE n _
  · rw [h1, h2, h3]; exact take_string_neg hE n h0 _
  · rw [h1, h2, h3]; exact take_string_many hE n h0 h0' _
  · rw [h1, h2, h3]
    exact take_string_ok hE k hk _ Try.call94 (fun ys => .string ⟨ys.toArray⟩) (Text1_says k)

theorem take_Hash_any {l : List HProp} {w : World} {o : Nat} {bs : List UInt8} {err : Int} (hE : Ent (opener o bs err :: l) w) :
    Calls Try.prog 95 #[.pointer (some ⟨o, 0, none⟩), .int .i64 32, .func (.func 96) #[] #[]] w (Ret fun v w' => v = .agg (bvals (hashT (tkOk 32 bs err) bs 32)).toArray ∧ Ent (opener o (tkB 32 bs err) (tkE 32 bs err) :: l) w') := by
  rcases tk_cases 32 bs err with ⟨h0, h1, h2, h3⟩ | ⟨rfl, h0, h1, h2, h3⟩ | ⟨rfl, h0, h0', h1, h2, h3⟩ | ⟨rfl, k, hk', hk, h1, h2, h3⟩
  · rw [h1, h2, h3]; exact take_Hash_err h0 hE 32 _
  · omega
  · rw [h1, h2, h3]; exact take_Hash_many hE 32 h0 h0' _
  · rw [h1, h2, h3]
    obtain rfl : k = 32 := by omega
    exact take_Hash_ok hE 32 hk _ Try.call96 (fun ys => ys) (fun _ h => h) Hash1_says

theorem hashT_length (bs : List UInt8) (err : Int) : (hashT (tkOk 32 bs err) bs 32).length = 32 := by
  unfold hashT
  split
  · rename_i h
    simp only [tkOk, Bool.and_eq_true, decide_eq_true_eq] at h
    simp
    omega
  · rfl

theorem Left_any {l : List HProp} {w : World} {o : Nat} {bs : List UInt8} {err : Int} (hE : Ent (opener o bs err :: l) w) :
    Calls Try.prog 51 #[.pointer (some ⟨o, 0, none⟩)] w (fun e w' => e = .returned (.int .i64 bs.length) ∧ w = w') := by
  obtain ⟨ao, c, hc, hE⟩ := opener_open hE
  go_enter Try.func51, Try.ntmps51
  go_wp2_with (first | ((with_reducible (show Go.wpList _ _ _ (Go.Oper.mk _ (.load _ _) _ _ _ _ :: _) _ _)); first | (refine wpl_load1 hE 0 rfl rfl rfl rfl (by simp [go_sem]) rfl ?_) | (refine wpl_load1 hE 1 rfl rfl rfl rfl (by simp [go_sem]) rfl ?_) | (refine wpl_load1 hE 2 rfl rfl rfl rfl (by simp [go_sem]) rfl ?_) | (refine wpl_load1 hE 3 rfl rfl rfl rfl (by simp [go_sem]) rfl ?_) | (refine wpl_load1 hE 4 rfl rfl rfl rfl (by simp [go_sem]) rfl ?_) | (refine wpl_load1 hE 5 rfl rfl rfl rfl (by simp [go_sem]) rfl ?_)))
  go_ret
  exact ⟨rfl, rfl⟩
theorem Left_nil (w : World) : Calls Try.prog 51 #[.pointer none] w (fun e w' => e = .returned (.int .i64 0) ∧ w = w') := by
  go_enter Try.func51, Try.ntmps51
  go_wp2
  go_ret
  exact ⟨rfl, rfl⟩
theorem Err_any {l : List HProp} {w : World} {o : Nat} {bs : List UInt8} {err : Int} (hE : Ent (opener o bs err :: l) w) :
    Calls Try.prog 52 #[.pointer (some ⟨o, 0, none⟩)] w (fun e w' => e = .returned (.int .i64 err) ∧ w = w') := by
  obtain ⟨ao, c, hc, hE⟩ := opener_open hE
  go_enter Try.func52, Try.ntmps52
  go_wp2_with (first | ((with_reducible (show Go.wpList _ _ _ (Go.Oper.mk _ (.load _ _) _ _ _ _ :: _) _ _)); first | (refine wpl_load1 hE 0 rfl rfl rfl rfl (by simp [go_sem]) rfl ?_) | (refine wpl_load1 hE 1 rfl rfl rfl rfl (by simp [go_sem]) rfl ?_) | (refine wpl_load1 hE 2 rfl rfl rfl rfl (by simp [go_sem]) rfl ?_) | (refine wpl_load1 hE 3 rfl rfl rfl rfl (by simp [go_sem]) rfl ?_) | (refine wpl_load1 hE 4 rfl rfl rfl rfl (by simp [go_sem]) rfl ?_) | (refine wpl_load1 hE 5 rfl rfl rfl rfl (by simp [go_sem]) rfl ?_)))
  go_ret
  exact ⟨rfl, rfl⟩
theorem Err_nil (w : World) : Calls Try.prog 52 #[.pointer none] w (fun e w' => e = .returned (.int .i64 1) ∧ w = w') := by
  go_enter Try.func52, Try.ntmps52
  go_wp2
  go_ret
  exact ⟨rfl, rfl⟩

def endE (bs : List UInt8) (err : Int) : Int := if err == 0 && !bs.isEmpty then 3 else err
theorem End_any {l : List HProp} {w : World} {o : Nat} {bs : List UInt8} {err : Int} (hE : Ent (opener o bs err :: l) w) :
    Calls Try.prog 59 #[.pointer (some ⟨o, 0, none⟩)] w (fun e w' => e = .returned (.int .i64 (endE bs err)) ∧ w = w') := by
  cases he : (err == 0) with
  | false =>
    have he' : (err != 0) = true := by simp only [bne, he]; rfl
    have hr : endE bs err = err := by simp [endE, he]
    rw [hr]
    go_enter Try.func59, Try.ntmps59
    go_wp2_with (first | go_skip | (go_at_call 52; refine (Err_any hE).mono ?_; rintro e w2 ⟨rfl, rfl⟩) | (go_at_call 51; refine (Left_any hE).mono ?_; rintro e w2 ⟨rfl, rfl⟩))
    go_ret
    exact ⟨rfl, rfl⟩
  | true =>
    obtain rfl : err = 0 := by simpa using he
    cases bs with
    | nil =>
      go_enter Try.func59, Try.ntmps59
      go_wp2_with (first | go_skip | (go_at_call 52; refine (Err_any hE).mono ?_; rintro e w2 ⟨rfl, rfl⟩) | (go_at_call 51; refine (Left_any hE).mono ?_; rintro e w2 ⟨rfl, rfl⟩))
      go_ret
      exact ⟨rfl, rfl⟩
    | cons b bs =>
      have hl : ((((b :: bs).length : Nat) : Int) == 0) = false := by simp; omega
      go_enter Try.func59, Try.ntmps59
      go_wp2_with (first | go_skip | (go_at_call 52; refine (Err_any hE).mono ?_; rintro e w2 ⟨rfl, rfl⟩) | (go_at_call 51; refine (Left_any hE).mono ?_; rintro e w2 ⟨rfl, rfl⟩))
      go_ret
      exact ⟨rfl, rfl⟩
theorem End_nil (w : World) : Calls Try.prog 59 #[.pointer none] w (fun e w' => e = .returned (.int .i64 1) ∧ w = w') := by
  go_enter Try.func59, Try.ntmps59
  go_wp2
  go_ret
  exact ⟨rfl, rfl⟩
