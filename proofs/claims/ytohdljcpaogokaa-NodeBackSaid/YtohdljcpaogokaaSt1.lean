/-
  Readers as functions of what is left and the error: numbers, texts, hashes and names, and that each reads back what was written. The opener's contracts in that form.
-/
import Derived.Test.YtohdljcpaogokaaNu
import Derived.Test.YtohdljcpaogokaaPk11
namespace Go.Proofs.Ytohdljcpaogokaa
open Go.RowKit Go.SL

/-- what is left, and the error -/
structure St where
  bs : List UInt8
  err : Int

def tk (n : Int) (s : St) : St := ⟨tkB (wideN n) s.bs s.err, tkE (wideN n) s.bs s.err⟩
def tkV (n : Int) (s : St) : Nat := valT (tkOk (wideN n) s.bs s.err) s.bs (wideN n)
def tx (n : Int) (s : St) : St := ⟨tkB n s.bs s.err, tkE n s.bs s.err⟩
def txV (n : Int) (s : St) : List UInt8 := strT (tkOk n s.bs s.err) s.bs n
def hxV (s : St) : List UInt8 := hashT (tkOk 32 s.bs s.err) s.bs 32
def nm (s : St) : St := ⟨nameB s.bs s.err, nameE s.bs s.err⟩
def nmV (s : St) : List UInt8 := nameS s.bs s.err

theorem tkB_len (n : Int) (bs : List UInt8) (err : Int) : (tkB n bs err).length ≤ bs.length := by
  unfold tkB
  split
  · simp
  · exact Nat.le_refl _
theorem tk_len (n : Int) (s : St) : (tk n s).bs.length ≤ s.bs.length := tkB_len _ _ _
theorem tx_len (n : Int) (s : St) : (tx n s).bs.length ≤ s.bs.length := tkB_len _ _ _
theorem nm_len (s : St) : (nm s).bs.length ≤ s.bs.length := by
  unfold nm nameB
  simp only
  split
  · simp only [List.length_drop, List.length_tail]; omega
  · exact Nat.le_refl _
theorem hxV_len (s : St) : (hxV s).length = 32 := hashT_length _ _
theorem tkV_lt (n : Int) (s : St) : tkV n s < 18446744073709551616 := by
  unfold tkV valT
  split
  · exact beVal_lt _
  · omega
theorem beVal_one (c : UInt8) : beVal [c] = c.toNat := by
  simp only [beVal, List.foldl_cons, List.foldl_nil]
  have := c.toNat_lt
  omega
theorem tkV1_lt (s : St) : tkV 1 s < 256 := by
  unfold tkV valT
  split
  · rcases h : s.bs with _ | ⟨c, r⟩
    · show beVal (List.take (1 : Int).toNat []) < 256
      simp [beVal]
    · show beVal [c] < 256
      rw [beVal_one]; exact c.toNat_lt
  · omega
theorem txV_len (n : Int) (s : St) : (txV n s).length ≤ s.bs.length := by
  unfold txV strT
  split
  · simp only [List.length_take]; omega
  · simp
theorem nmV_len (s : St) : (nmV s).length ≤ s.bs.length := by
  unfold nmV nameS
  split
  · simp only [List.length_take, List.length_tail]; omega
  · simp

/-- the state behind a thing that was written -/
theorem tx_app (ys r : List UInt8) : tx ys.length ⟨ys ++ r, 0⟩ = ⟨r, 0⟩ ∧ txV ys.length ⟨ys ++ r, 0⟩ = ys := by
  have a1 : decide ((0 : Int) ≤ (ys.length : Int)) = true := decide_eq_true (by omega)
  have a2 : decide ((ys.length : Int) ≤ ((ys ++ r).length : Int)) = true := decide_eq_true (by simp; omega)
  have e1 : tkOk ys.length (ys ++ r) 0 = true := by unfold tkOk; rw [a1, a2]; rfl
  have e4 : tkE ys.length (ys ++ r) 0 = 0 := by unfold tkE; rw [a1, a2]; rfl
  refine ⟨?_, ?_⟩
  · simp only [tx, tkB, e1, if_true, e4, Int.toNat_natCast, List.drop_left' rfl]
  · simp only [txV, e1, strT, if_true, Int.toNat_natCast, List.take_left' rfl]
theorem hx_app (hs r : List UInt8) (h32 : hs.length = 32) : tx 32 ⟨hs ++ r, 0⟩ = ⟨r, 0⟩ ∧ hxV ⟨hs ++ r, 0⟩ = hs := by
  have h := tx_app hs r
  rw [h32] at h
  refine ⟨h.1, ?_⟩
  have h2 : strT (tkOk 32 (hs ++ r) 0) (hs ++ r) 32 = hs := h.2
  have e1 : tkOk 32 (hs ++ r) 0 = true := by simp [tkOk, h32]; omega
  simp only [hxV, e1, hashT, if_true]
  rw [e1] at h2
  exact h2
theorem foldl_be' (n : Nat) : ∀ (w a : Nat), a < 18446744073709551616 → (be w n).foldl (fun n c => (n * 256 + c.toNat) % 18446744073709551616) a = (a * 256 ^ w + n % 256 ^ w) % 18446744073709551616
  | 0, a, h => by simp [be, Nat.mod_one]; omega
  | w + 1, a, h => by
    rw [be, List.foldl_cons, foldl_be' n w _ (Nat.mod_lt _ (by omega))]
    have h1 : (UInt8.ofNat (n / 256 ^ w)).toNat = n / 256 ^ w % 256 := by simp
    have h2 : n % 256 ^ (w + 1) = n % 256 ^ w + 256 ^ w * (n / 256 ^ w % 256) := Nat.mod_pow_succ
    rw [h1, h2, Nat.pow_succ]
    generalize n / 256 ^ w % 256 = c
    generalize n % 256 ^ w = d
    generalize 256 ^ w = e
    rw [Nat.add_mod ((a * 256 + c) % 18446744073709551616 * e), Nat.mod_mul_mod, ← Nat.add_mod]
    congr 1
    rw [Nat.add_mul, Nat.mul_comm e c, Nat.mul_assoc, Nat.mul_comm 256 e]
    omega
theorem beVal_be' (n w : Nat) (h : n < 256 ^ w) (hn : n < 18446744073709551616) : beVal (be w n) = n := by
  unfold beVal
  rw [foldl_be' n w 0 (by omega), Nat.mod_eq_of_lt h]
  omega
theorem tk_app (w : Nat) (n : Nat) (r : List UInt8) (hw : wideB w = true) (h : n < 256 ^ w) (hn : n < 18446744073709551616) : tk w ⟨be w n ++ r, 0⟩ = ⟨r, 0⟩ ∧ tkV w ⟨be w n ++ r, 0⟩ = n := by
  have hl := be_length w n
  have e0 : wideN (w : Int) = w := by simp [wideN, hw]
  have ht := tx_app (be w n) r
  rw [hl] at ht
  refine ⟨?_, ?_⟩
  · rw [tk, e0]; exact ht.1
  · have e1 : tkOk (w : Int) (be w n ++ r) 0 = true := by
      have a1 : decide ((0 : Int) ≤ (w : Int)) = true := decide_eq_true (by omega)
      have a2 : decide ((w : Int) ≤ ((be w n ++ r).length : Int)) = true := decide_eq_true (by rw [List.length_append, hl]; omega)
      unfold tkOk; rw [a1, a2]; rfl
    simp only [tkV, e0, e1, valT, if_true, Int.toNat_natCast]
    rw [List.take_left' hl, beVal_be' n w h hn]
theorem tk1_app (n : Nat) (r : List UInt8) (h : n < 256) : tk 1 ⟨be 1 n ++ r, 0⟩ = ⟨r, 0⟩ ∧ tkV 1 ⟨be 1 n ++ r, 0⟩ = n := tk_app 1 n r rfl (by omega) (by omega)
theorem tk2_app (n : Nat) (r : List UInt8) (h : n < 65536) : tk 2 ⟨be 2 n ++ r, 0⟩ = ⟨r, 0⟩ ∧ tkV 2 ⟨be 2 n ++ r, 0⟩ = n := tk_app 2 n r rfl (by omega) (by omega)
theorem tk4_app (n : Nat) (r : List UInt8) (h : n < 4294967296) : tk 4 ⟨be 4 n ++ r, 0⟩ = ⟨r, 0⟩ ∧ tkV 4 ⟨be 4 n ++ r, 0⟩ = n := tk_app 4 n r rfl (by omega) (by omega)
theorem be_one (n : Nat) : be 1 n = [UInt8.ofNat n] := by simp [be]
theorem be_one' (c : UInt8) : be 1 c.toNat = [c] := by rw [be_one]; simp
theorem nm_app (ys r : List UInt8) (hl : ys.length < 256) : nm ⟨UInt8.ofNat ys.length :: ys ++ r, 0⟩ = ⟨r, 0⟩ ∧ nmV ⟨UInt8.ofNat ys.length :: ys ++ r, 0⟩ = ys := by
  have en : (UInt8.ofNat ys.length).toNat = ys.length := by simp; omega
  have e1 : nameOk (UInt8.ofNat ys.length :: ys ++ r) = true := by
    show decide ((UInt8.ofNat ys.length).toNat ≤ (ys ++ r).length) = true
    rw [en]; simp
  refine ⟨?_, ?_⟩
  · have e3 : nameB (UInt8.ofNat ys.length :: ys ++ r) 0 = r := by
      unfold nameB
      rw [e1]
      show (ys ++ r).drop (UInt8.ofNat ys.length).toNat = r
      rw [en]; exact List.drop_left' rfl
    have e4 : nameE (UInt8.ofNat ys.length :: ys ++ r) 0 = 0 := by
      unfold nameE
      rw [e1]; rfl
    rw [nm, e3, e4]
  · show nameS (UInt8.ofNat ys.length :: ys ++ r) 0 = ys
    unfold nameS
    rw [e1]
    show (ys ++ r).take (UInt8.ofNat ys.length).toNat = ys
    rw [en]; exact List.take_left' rfl

theorem sTake {l : List HProp} {w : World} {o : Nat} {s : St} (hE : Ent (opener o s.bs s.err :: l) w) (hb : s.bs.length ≤ 1099511627776) (n : Int) :
    Calls Try.prog 55 #[.pointer (some ⟨o, 0, none⟩), .int .i64 n] w (Ret fun v w' => v = .int .u64 (tkV n s) ∧ Ent (opener o (tk n s).bs (tk n s).err :: l) w') := oTake_any hE hb n
theorem sText {l : List HProp} {w : World} {o : Nat} {s : St} (hE : Ent (opener o s.bs s.err :: l) w) (hb : s.bs.length ≤ 1099511627776) (n : Int) :
    Calls Try.prog 56 #[.pointer (some ⟨o, 0, none⟩), .int .i64 n] w (Ret fun v w' => v = .string ⟨(txV n s).toArray⟩ ∧ Ent (opener o (tx n s).bs (tx n s).err :: l) w') := oText_any hE hb n
theorem sHash {l : List HProp} {w : World} {o : Nat} {s : St} (hE : Ent (opener o s.bs s.err :: l) w) :
    Calls Try.prog 58 #[.pointer (some ⟨o, 0, none⟩)] w (Ret fun v w' => v = .agg (bvals (hxV s)).toArray ∧ Ent (opener o (tx 32 s).bs (tx 32 s).err :: l) w') := oHash_any hE
theorem sName {l : List HProp} {w : World} {o : Nat} {s : St} (hE : Ent (opener o s.bs s.err :: l) w) (hb : s.bs.length ≤ 1099511627776) :
    Calls Try.prog 57 #[.pointer (some ⟨o, 0, none⟩)] w (Ret fun v w' => v = .string ⟨(nmV s).toArray⟩ ∧ Ent (opener o (nm s).bs (nm s).err :: l) w') := oName_any hE hb
end Go.Proofs.Ytohdljcpaogokaa
