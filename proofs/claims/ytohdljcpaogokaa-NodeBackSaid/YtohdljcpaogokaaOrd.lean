/-
  The order of texts as the model tells it, and what the halving of slices.BinarySearch finds in texts that rise. Plain law, no program.
-/
import Derived.Shelf.Spec.SearchS
namespace Go.SL

theorem bl_irrefl : ∀ a : List UInt8, Op.bytesLess a a = false
  | [] => rfl
  | x :: a => by simp [Op.bytesLess, bl_irrefl a]
theorem bl_cons (x y : UInt8) (a b : List UInt8) : Op.bytesLess (x :: a) (y :: b) = true ↔ x.toNat < y.toNat ∨ (x = y ∧ Op.bytesLess a b = true) := by
  simp [Op.bytesLess, UInt8.lt_iff_toNat_lt]
theorem bl_nil_cons (y : UInt8) (b : List UInt8) : Op.bytesLess [] (y :: b) = true := by simp [Op.bytesLess]
theorem bl_nil (a : List UInt8) : Op.bytesLess a [] = false := by cases a <;> rfl
theorem bl_trans : ∀ {a b c : List UInt8}, Op.bytesLess a b = true → Op.bytesLess b c = true → Op.bytesLess a c = true
  | a, [], c, h, _ => by rw [bl_nil] at h; cases h
  | a, y :: b, [], _, h => by rw [bl_nil] at h; cases h
  | [], y :: b, z :: c, _, _ => bl_nil_cons z c
  | x :: a, y :: b, z :: c, h1, h2 => by
    rw [bl_cons] at h1 h2 ⊢
    rcases h1 with h1 | ⟨rfl, h1⟩
    · rcases h2 with h2 | ⟨rfl, h2⟩
      · exact .inl (by omega)
      · exact .inl h1
    · rcases h2 with h2 | ⟨rfl, h2⟩
      · exact .inl h2
      · exact .inr ⟨rfl, bl_trans h1 h2⟩
theorem bl_total : ∀ {a b : List UInt8}, a ≠ b → Op.bytesLess a b = false → Op.bytesLess b a = true
  | [], [], h, _ => absurd rfl h
  | [], y :: b, _, h => by rw [bl_nil_cons] at h; cases h
  | x :: a, [], _, _ => bl_nil_cons x a
  | x :: a, y :: b, hn, h => by
    rw [bl_cons]
    have h' : ¬ (x.toNat < y.toNat ∨ (x = y ∧ Op.bytesLess a b = true)) := by rw [← bl_cons, h]; simp
    by_cases hxy : x = y
    · subst hxy
      refine .inr ⟨rfl, bl_total (fun e => hn (by rw [e])) ?_⟩
      cases hb : Op.bytesLess a b with
      | false => rfl
      | true => exact absurd (.inr ⟨rfl, hb⟩) h'
    · have : x.toNat ≠ y.toNat := fun e => hxy (UInt8.toNat_inj.1 e)
      exact .inl (by omega)
theorem bl_asymm {a b : List UInt8} (h : Op.bytesLess a b = true) : Op.bytesLess b a = false := by
  cases hb : Op.bytesLess b a with
  | false => rfl
  | true => have := bl_trans h hb; rw [bl_irrefl] at this; cases this

theorem bsGo_at {less : Nat → Bool} {n : Nat} : ∀ (f lo hi : Nat), hi - lo ≤ f → lo ≤ hi → hi ≤ n → (∀ i j, i ≤ j → j < n → less j = true → less i = true) → (∀ i, i < lo → less i = true) → (∀ i, hi ≤ i → i < n → less i = false) →
    lo ≤ Lib.bsGo less f lo hi ∧ Lib.bsGo less f lo hi ≤ hi ∧ (∀ i, i < Lib.bsGo less f lo hi → less i = true) ∧ ∀ i, Lib.bsGo less f lo hi ≤ i → i < n → less i = false
  | 0, lo, hi, hf, hl, hn, _, h1, h2 => by
    obtain rfl : lo = hi := by omega
    rw [Lib.bsGo]
    exact ⟨Nat.le_refl _, Nat.le_refl _, h1, h2⟩
  | f + 1, lo, hi, hf, hl, hn, hm, h1, h2 => by
    rw [Lib.bsGo]
    by_cases hlt : lo < hi
    · rw [if_pos hlt]
      cases hc : less ((lo + hi) / 2) with
      | true =>
        simp only [if_true]
        obtain ⟨a, b, c, d⟩ := bsGo_at f ((lo + hi) / 2 + 1) hi (by omega) (by omega) hn hm (fun i hi' => hm i ((lo + hi) / 2) (by omega) (by omega) hc) h2
        exact ⟨by omega, b, c, d⟩
      | false =>
        simp only [Bool.false_eq_true, if_false]
        obtain ⟨a, b, c, d⟩ := bsGo_at f lo ((lo + hi) / 2) (by omega) (by omega) (by omega) hm h1 (fun i hi' hin => by
          cases hli : less i with
          | false => rfl
          | true => rw [hm _ i hi' hin hli] at hc; cases hc)
        exact ⟨a, by omega, c, d⟩
    · rw [if_neg hlt]
      obtain rfl : lo = hi := by omega
      exact ⟨Nat.le_refl _, Nat.le_refl _, h1, h2⟩
theorem countP_at {α : Type} {p : α → Bool} {xs : List α} {r : Nat} (hr : r ≤ xs.length) (h1 : ∀ (i : Nat) (h : i < xs.length), i < r → p xs[i] = true) (h2 : ∀ (i : Nat) (h : i < xs.length), r ≤ i → p xs[i] = false) : xs.countP p = r := by
  have e : xs.countP p = (xs.take r).countP p + (xs.drop r).countP p := by rw [← List.countP_append, List.take_append_drop]
  have e1 : (xs.take r).countP p = r := by
    have : (xs.take r).countP p = (xs.take r).length := List.countP_eq_length.2 fun a ha => by
      obtain ⟨i, hi, rfl⟩ := List.getElem_of_mem ha
      rw [List.length_take] at hi
      rw [List.getElem_take]
      exact h1 i (by omega) (by omega)
    rw [this, List.length_take]
    omega
  have e2 : (xs.drop r).countP p = 0 := List.countP_eq_zero.2 fun a ha => by
    obtain ⟨i, hi, rfl⟩ := List.getElem_of_mem ha
    rw [List.length_drop] at hi
    rw [List.getElem_drop, h2 (r + i) (by omega) (by omega)]
    simp
  omega
/-- do texts rise? -/
def Rising (ks : List (List UInt8)) : Prop := ∀ (i : Nat) (h : i + 1 < ks.length), Op.bytesLess ks[i] ks[i + 1] = true
theorem Rising.lt {ks : List (List UInt8)} (h : Rising ks) : ∀ (d i : Nat) (hj : i + 1 + d < ks.length), Op.bytesLess (ks[i]'(by omega)) (ks[i + 1 + d]) = true
  | 0, i, hj => h i hj
  | d + 1, i, hj => bl_trans (h.lt d i (by omega)) (h (i + 1 + d) (by omega))
theorem Rising.of {ks : List (List UInt8)} (h : Rising ks) {i j : Nat} (hij : i < j) (hj : j < ks.length) : Op.bytesLess (ks[i]'(by omega)) ks[j] = true := by
  have := h.lt (j - i - 1) i (by omega)
  simpa [show i + 1 + (j - i - 1) = j by omega] using this
/-- where a text stands among texts that rise -/
def placeOf (ks : List (List UInt8)) (key : List UInt8) : Nat := ks.countP fun k => Op.bytesLess k key
def isIn (ks : List (List UInt8)) (key : List UInt8) : Bool := ks.contains key
theorem find_at {ks : List (List UInt8)} (h : Rising ks) (key : List UInt8) :
    Lib.bsGo (fun t => Op.bytesLess (ks.getD t []) key) ks.length 0 ks.length = placeOf ks key ∧ placeOf ks key ≤ ks.length ∧
    ks.countP (fun k => Op.bytesLess k key || k == key) = placeOf ks key + (if isIn ks key then 1 else 0) ∧
    (isIn ks key = true ↔ ∃ h : placeOf ks key < ks.length, ks[placeOf ks key] = key) := by
  have get : ∀ (i : Nat) (hi : i < ks.length), ks.getD i [] = ks[i] := fun i hi => by rw [List.getD_eq_getElem?_getD, List.getElem?_eq_getElem hi]; rfl
  have mono : ∀ i j, i ≤ j → j < ks.length → Op.bytesLess (ks.getD j []) key = true → Op.bytesLess (ks.getD i []) key = true := fun i j hij hj hl => by
    rcases Nat.lt_or_eq_of_le hij with h1 | rfl
    · rw [get i (by omega)]
      rw [get j hj] at hl
      exact bl_trans (h.of h1 hj) hl
    · exact hl
  obtain ⟨_, hb, hc, hd⟩ := bsGo_at (less := fun t => Op.bytesLess (ks.getD t []) key) ks.length 0 ks.length (by omega) (Nat.zero_le _) (Nat.le_refl _) mono (fun i hi => absurd hi (Nat.not_lt_zero _)) (fun i hi hn => by omega)
  generalize Lib.bsGo (fun t => Op.bytesLess (ks.getD t []) key) ks.length 0 ks.length = r at *
  have hr : placeOf ks key = r := countP_at hb (fun i hi hir => by have := hc i hir; simp only [get i hi] at this; exact this) (fun i hi hir => by have := hd i hir hi; simp only [get i hi] at this; exact this)
  rw [hr]
  have hin : isIn ks key = true ↔ ∃ h : r < ks.length, ks[r] = key := by
    rw [isIn, List.contains_iff_mem]
    constructor
    · intro hm
      obtain ⟨i, hi, e⟩ := List.getElem_of_mem hm
      have h1 : ¬ i < r := fun hir => by
        have := hc i hir
        simp only [get i hi, e, bl_irrefl] at this
        cases this
      have h2 : ¬ r < i := fun hri => by
        have h3 := h.of hri hi
        rw [e] at h3
        have := hd r (Nat.le_refl _) (by omega)
        simp only [get r (by omega), h3] at this
        cases this
      obtain rfl : i = r := by omega
      exact ⟨hi, e⟩
    · rintro ⟨h1, e⟩
      rw [← e]
      exact List.getElem_mem h1
  refine ⟨rfl, hb, ?_, hin⟩
  cases hi : isIn ks key with
  | true =>
    obtain ⟨h1, e⟩ := hin.1 hi
    refine countP_at (by simp only [if_true]; omega) (fun i hi' hir => ?_) (fun i hi' hir => ?_)
    · simp only [if_true] at hir
      rcases Nat.lt_or_eq_of_le (show i ≤ r by omega) with h2 | rfl
      · have := hc i h2
        simp only [get i hi'] at this
        rw [this]; rfl
      · rw [e]; simp
    · simp only [if_true] at hir
      have := hd i (by omega) hi'
      simp only [get i hi'] at this
      rw [this, Bool.false_or, beq_eq_false_iff_ne]
      intro e2
      have h3 := h.of (show r < i by omega) hi'
      rw [e, e2, bl_irrefl] at h3
      cases h3
  | false =>
    have hni : ∀ (i : Nat) (hi' : i < ks.length), ks[i] ≠ key := fun i hi' e => by
      have : isIn ks key = true := by rw [isIn, List.contains_iff_mem, ← e]; exact List.getElem_mem hi'
      rw [hi] at this; cases this
    refine countP_at (by simp; omega) (fun i hi' hir => ?_) (fun i hi' hir => ?_)
    · have := hc i (by simpa using hir)
      simp only [get i hi'] at this
      rw [this]; rfl
    · have := hd i (by simpa using hir) hi'
      simp only [get i hi'] at this
      rw [this, Bool.false_or, beq_eq_false_iff_ne]
      exact hni i hi'
/-- of a text that is there -/
theorem place_of_mem {ks : List (List UInt8)} (h : Rising ks) {i : Nat} (hi : i < ks.length) : placeOf ks ks[i] = i ∧ isIn ks ks[i] = true := by
  refine ⟨countP_at (by omega) (fun j hj hji => h.of hji hi) (fun j hj hij => ?_), by rw [isIn, List.contains_iff_mem]; exact List.getElem_mem hi⟩
  rcases Nat.lt_or_eq_of_le hij with h1 | rfl
  · exact bl_asymm (h.of h1 hj)
  · exact bl_irrefl _
end Go.SL
