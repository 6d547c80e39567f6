/-
  Paths, plain: names, what stands between the slashes, and what is joined by them.
-/
import Derived.Test.YtohdljcpaogokaaDoorPa1
namespace Go.Proofs.YtohdljcpaogokaaDoor
open Go.RowKit Go.SL

def goodB (c : UInt8) : Bool := decide (33 ≤ c.toNat) && (decide (c.toNat ≤ 126) && c != 47)
def isName (s : List UInt8) : Bool := s.all goodB && (decide (1 ≤ s.length) && decide (s.length ≤ 16))
def cuts : List UInt8 → List (List UInt8)
  | [] => [[]]
  | c :: s => if c == 47 then [] :: cuts s else match cuts s with
    | [] => [[c]]
    | h :: t => (c :: h) :: t
def splitL (p : List UInt8) : List (List UInt8) := if p = [] then [] else if (cuts p).all isName then (if (cuts p).length ≤ 6 then cuts p else []) else []
def splitE (p : List UInt8) : Int := if p = [] then 0 else if (cuts p).all isName then (if (cuts p).length ≤ 6 then 0 else 6) else 7
def joinP (l : List (List UInt8)) : List UInt8 := Lib.join l [47]

theorem cuts_cons (c : UInt8) (s : List UInt8) : cuts (c :: s) = if c == 47 then [] :: cuts s else match cuts s with
    | [] => [[c]]
    | h :: t => (c :: h) :: t := rfl
theorem cuts_ne (s : List UInt8) : cuts s ≠ [] := by
  cases s with
  | nil => simp [cuts]
  | cons c s =>
    unfold cuts
    split
    · simp
    · split <;> simp
theorem idx_cuts : ∀ s : List UInt8, (Lib.indexByte s 47 = -1 ∧ cuts s = [s]) ∨ ∃ k : Nat, k < s.length ∧ Lib.indexByte s 47 = k ∧ cuts s = s.take k :: cuts (s.drop (k + 1))
  | [] => .inl ⟨rfl, rfl⟩
  | c :: s => by
    rw [Lib.indexByte, cuts_cons]
    cases hc : c == 47 with
    | true => exact .inr ⟨0, by simp, by simp, by simp⟩
    | false =>
      rcases idx_cuts s with ⟨h1, h2⟩ | ⟨k, hk, h1, h2⟩
      · exact .inl ⟨by rw [h1]; simp, by rw [h2]; simp⟩
      · refine .inr ⟨k + 1, by simpa using hk, ?_, ?_⟩
        · rw [h1]
          have : ((k : Int) == -1) = false := by rw [beq_eq_false_iff_ne]; omega
          simp [this]
        · rw [h2, if_neg (by simp)]; rfl
theorem cuts_free {s : List UInt8} (h : ∀ c ∈ s, c ≠ 47) : cuts s = [s] := by
  induction s with
  | nil => rfl
  | cons c s ih =>
    have hc : (c == 47) = false := by simpa using h c (by simp)
    rw [cuts, hc, ih (fun d hd => h d (by simp [hd]))]
    simp
theorem cuts_app {a : List UInt8} (b : List UInt8) (h : ∀ c ∈ a, c ≠ 47) : cuts (a ++ 47 :: b) = a :: cuts b := by
  induction a with
  | nil => simp [cuts]
  | cons c a ih =>
    have hc : (c == 47) = false := by simpa using h c (by simp)
    rw [List.cons_append, cuts, hc, ih (fun d hd => h d (by simp [hd]))]
    simp
theorem joinP_cons (a : List UInt8) {l : List (List UInt8)} (h : l ≠ []) : joinP (a :: l) = a ++ 47 :: joinP l := by
  obtain ⟨b, t, rfl⟩ := List.exists_cons_of_ne_nil h
  rw [joinP, joinP, Lib.join_cons, Lib.join_cons, Lib.joinTail]
  simp [Lib.joinTail]
theorem joinP_one (a : List UInt8) : joinP [a] = a := Lib.join_one a [47]
theorem join_cuts : ∀ s : List UInt8, joinP (cuts s) = s
  | [] => by rw [cuts, joinP_one]
  | c :: s => by
    have ih := join_cuts s
    unfold cuts
    cases hc : c == 47 with
    | true =>
      have : c = 47 := by simpa using hc
      simp only [if_true]
      rw [joinP_cons [] (cuts_ne s), ih, this]
      rfl
    | false =>
      simp only [Bool.false_eq_true, if_false]
      obtain ⟨h, t, e⟩ := List.exists_cons_of_ne_nil (cuts_ne s)
      rw [e] at ih ⊢
      cases t with
      | nil =>
        rw [joinP_one] at ih
        show joinP [c :: h] = c :: s
        rw [joinP_one, ih]
      | cons x t =>
        rw [joinP_cons h (by simp)] at ih
        show joinP ((c :: h) :: x :: t) = c :: s
        rw [joinP_cons (c :: h) (by simp), ← ih]
        rfl
theorem name_free {s : List UInt8} (h : isName s = true) : ∀ c ∈ s, c ≠ 47 := by
  simp only [isName, Bool.and_eq_true] at h
  intro c hc e
  have := List.all_eq_true.1 h.1 c hc
  simp [goodB, e] at this
theorem cuts_join : ∀ l : List (List UInt8), l ≠ [] → l.all isName = true → cuts (joinP l) = l
  | [], h, _ => absurd rfl h
  | [a], _, h => by
    rw [joinP_one]
    simp only [List.all_cons, Bool.and_eq_true] at h
    exact cuts_free (name_free h.1)
  | a :: b :: t, _, h => by
    simp only [List.all_cons, Bool.and_eq_true] at h
    rw [joinP_cons a (by simp), cuts_app _ (name_free h.1), cuts_join (b :: t) (by simp) (by simp [h.2.1, h.2.2])]
theorem cuts_len : ∀ s : List UInt8, (cuts s).length ≤ s.length + 1 ∧ ∀ x ∈ cuts s, x.length ≤ s.length
  | [] => by simp [cuts]
  | c :: s => by
    obtain ⟨h1, h2⟩ := cuts_len s
    unfold cuts
    split
    · refine ⟨by simp only [List.length_cons]; omega, fun x hx => ?_⟩
      simp only [List.mem_cons] at hx
      rcases hx with rfl | hx
      · simp
      · have := h2 x hx; simp only [List.length_cons]; omega
    · obtain ⟨h, t, e⟩ := List.exists_cons_of_ne_nil (cuts_ne s)
      rw [e] at h1 h2 ⊢
      refine ⟨by simp only [List.length_cons] at h1 ⊢; omega, fun x hx => ?_⟩
      simp only [List.mem_cons] at hx
      rcases hx with rfl | hx
      · have := h2 h (by simp); simp only [List.length_cons]; omega
      · have := h2 x (by simp [hx]); simp only [List.length_cons]; omega

/-- what is left when some have come -/
def rst (p : List UInt8) (pre : List (List UInt8)) : List UInt8 := p.drop ((pre.map fun x => x.length + 1).sum)
theorem rst_nil (p : List UInt8) : rst p [] = p := by simp [rst]
theorem rst_step (p : List UInt8) (pre : List (List UInt8)) {k : Nat} (hk : k < (rst p pre).length) : rst p (pre ++ [(rst p pre).take k]) = (rst p pre).drop (k + 1) := by
  have hl : ((rst p pre).take k).length = k := by rw [List.length_take]; omega
  rw [rst, List.map_append, List.sum_append]
  simp only [List.map_cons, List.map_nil, List.sum_cons, List.sum_nil, hl, Nat.add_zero]
  rw [rst, List.drop_drop]

/-- the program's answer, as Split comes to it -/
theorem split_empty : splitL [] = [] ∧ splitE [] = 0 := ⟨rfl, rfl⟩
theorem split_bad {p : List UInt8} (h0 : p ≠ []) {x : List UInt8} (hx : x ∈ cuts p) (h : isName x = false) : splitL p = [] ∧ splitE p = 7 := by
  have : (cuts p).all isName = false := List.all_eq_false.2 ⟨x, hx, by simp [h]⟩
  simp [splitL, splitE, h0, this]
theorem split_many {p : List UInt8} (h0 : p ≠ []) (h : (cuts p).all isName = true) (h6 : ¬ (cuts p).length ≤ 6) : splitL p = [] ∧ splitE p = 6 := by simp [splitL, splitE, h0, h, h6]
theorem split_good {p : List UInt8} (h0 : p ≠ []) (h : (cuts p).all isName = true) (h6 : (cuts p).length ≤ 6) : splitL p = cuts p ∧ splitE p = 0 := by simp [splitL, splitE, h0, h, h6]
end Go.Proofs.YtohdljcpaogokaaDoor
