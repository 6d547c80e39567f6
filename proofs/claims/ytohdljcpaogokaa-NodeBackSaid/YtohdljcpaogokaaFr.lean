/-
  What the arguments of a law hold when a call begins, as facts on cells: a slice of anything is a row of its elements' cells. Conditions: none; plain lemmas over any program.
-/
import Derived.Test.YtohdljcpaogokaaSlc
import Derived.ProofKit
import Derived.OpenShut
import Derived.ShutString
import Derived.ChangeOld
import Derived.ChangeMaps5
import Derived.Carry
import Derived.Below
import Derived.Deep.Slices
import Derived.Deep.Fields
import Derived.ChangeSame
namespace Go.SL
open Go.ChangeShapes Go.WideShapes Go.Deep Go.RowKit

theorem cell_lt {w : World} {p : Addr} {v : Value} (h : w.cell? p = some v) : p.block < w.heap.size := by
  by_cases hb : p.block < w.heap.size
  · exact hb
  · have : w.heap[p.block]? = none := by rw [Array.getElem?_eq_none_iff]; omega
    simp [World.cell?, this] at h

theorem reads_below {W w : World} {v : Value} {n : Nat} {xs : List Value} (bel : Below W.heap.size W w) (hr : reads v n xs W) : reads v n xs w := by
  obtain ⟨ao, c, rfl, h1, h2⟩ := hr
  refine ⟨ao, c, rfl, h1, fun ad had j u hu => ?_⟩
  have h := h2 ad had j u hu
  rw [bel.cell (cell_lt h)]
  exact h

theorem knows_start {W : World} {v : Value} {n : Nat} {xs : List Value} (hr : reads v n xs W) : Knows [rest W fun _ => False] (reads v n xs) :=
  fun _ hE => reads_below (hE.below 0 rfl) hr

theorem choose_list {α : Type} (q : Nat → α → Prop) : ∀ n : Nat, (∀ i, i < n → ∃ x, q i x) → ∃ xs : List α, xs.length = n ∧ ∀ i x, xs[i]? = some x → q i x
  | 0, _ => ⟨[], rfl, fun i x h => by simp at h⟩
  | n + 1, h => by
    obtain ⟨xs, h1, h2⟩ := choose_list q n (fun i hi => h i (by omega))
    obtain ⟨y, hy⟩ := h n (by omega)
    refine ⟨xs ++ [y], by simp [h1], fun i x hx => ?_⟩
    by_cases hi : i < xs.length
    · rw [List.getElem?_append_left hi] at hx
      exact h2 i x hx
    · rw [List.getElem?_append_right (by omega)] at hx
      have : i - xs.length = 0 := by
        have := (List.getElem?_eq_some_iff.1 hx).1
        simp at this
        omega
      rw [this] at hx
      simp at hx
      subst hx
      rwa [show i = n by omega]

theorem flatMap_get {α : Type} (f : α → List Value) (k : Nat) (hk : ∀ x, (f x).length = k) : ∀ (xs : List α) (j : Nat) (u : Value), (xs.flatMap f)[j]? = some u → 0 < k → ∃ x, xs[j / k]? = some x ∧ (f x)[j % k]? = some u
  | [], j, u, h, _ => by simp at h
  | x :: xs, j, u, h, h0 => by
    rw [List.flatMap_cons] at h
    by_cases hj : j < k
    · rw [List.getElem?_append_left (by rw [hk]; exact hj)] at h
      refine ⟨x, by rw [Nat.div_eq_of_lt hj]; rfl, by rw [Nat.mod_eq_of_lt hj]; exact h⟩
    · rw [List.getElem?_append_right (by rw [hk]; omega), hk] at h
      obtain ⟨y, h1, h2⟩ := flatMap_get f k hk xs (j - k) u h h0
      refine ⟨y, ?_, ?_⟩
      · rw [show j / k = (j - k) / k + 1 by rw [Nat.div_eq_sub_div h0 (by omega)]]
        simpa using h1
      · rw [show j % k = (j - k) % k by rw [Nat.mod_eq_sub_mod (by omega)]]
        exact h2

theorem flatMap_len {α : Type} (f : α → List Value) (k : Nat) (hk : ∀ x, (f x).length = k) : ∀ xs : List α, (xs.flatMap f).length = xs.length * k
  | [] => by simp
  | x :: xs => by rw [List.flatMap_cons, List.length_append, hk, flatMap_len f k hk xs, List.length_cons, Nat.succ_mul, Nat.add_comm]

theorem flatMap_at {α : Type} (f : α → List Value) (k : Nat) (hk : ∀ x, (f x).length = k) (xs : List α) (i j : Nat) (x : α) (u : Value) (hx : xs[i]? = some x) (hu : (f x)[j]? = some u) : (xs.flatMap f)[i * k + j]? = some u := by
  induction xs generalizing i with
  | nil => simp at hx
  | cons y ys ih =>
    have hj : j < k := by rw [← hk x]; exact (List.getElem?_eq_some_iff.1 hu).1
    rw [List.flatMap_cons]
    cases i with
    | zero =>
      simp at hx
      subst hx
      rw [List.getElem?_append_left (by rw [hk]; omega)]
      simpa using hu
    | succ i =>
      rw [List.getElem?_append_right (by rw [hk]; rw [Nat.succ_mul]; omega), hk, show (i + 1) * k + j - k = i * k + j by rw [Nat.succ_mul]; omega]
      exact ih i (by simpa using hx)

section
variable {H : Type} {enc : TypeId × Value → H} {P : Program} {w : World} {held : Bool}

/-- a slice that came in, read by its elements -/
theorem open_row {t e : TypeId} {r : Reach} {b0 : Nat} {v : Value} {d : DataW H} {ps : List MemPlace} (ht : P.underlying t = some (.slice e)) {α : Type} (cells : α → List Value) (good : α → Prop) {k : Nat} (hk : ∀ x, (cells x).length = k) (h0 : 0 < k) (hC : P.cellsOf e = k)
    (hval : Value.okWide P w r b0 t v) (h : DataW.Trod enc P w 0 (fun _ => true) held t v d ps)
    (hel : ∀ (m : Nat) (cs : List Value) (y : DataW H × List MemPlace), cs.length = k → DataW.trod enc P w 0 (fun _ => true) held m e cs = some y → ∃ x, good x ∧ cs = cells x) :
    ∃ (ao : Option Addr) (c : Nat) (xs : List α), v = .slice ao xs.length c ∧ xs.length ≤ c ∧ c ≤ maxLen ∧ (∀ x ∈ xs, good x) ∧ reads v xs.length (xs.flatMap cells) w := by
  obtain ⟨ao, len, cap, rfl⟩ := okWide_slice ht hval
  obtain ⟨fuel, hf⟩ := h
  rcases open_slice ht hf with ⟨hcs, _⟩ | ⟨a, l, c, m, n, D, Pl, hcs, _, hl, hm, hmm, _, hi⟩
  · simp [Value.cells] at hcs
    obtain ⟨rfl, rfl, rfl⟩ := hcs
    exact ⟨none, 0, [], rfl, Nat.le_refl _, Nat.zero_le _, by simp, reads_nil 0 0 rfl w⟩
  · simp [Value.cells] at hcs
    obtain ⟨rfl, rfl, rfl⟩ := hcs
    simp at hmm
    subst hmm
    obtain ⟨xs, h1, h2⟩ := choose_list (fun i x => good x ∧ ∀ j u, (cells x)[j]? = some u → w.cell? (a.add (i * k + j)) = some u) len (fun i hil => by
      obtain ⟨cs', hc, htr⟩ := hi i (by omega)
      rw [hC] at hc
      obtain ⟨_, hcl, hat⟩ := World.cells?_some hc
      obtain ⟨x, hg, rfl⟩ := hel n cs' _ hcl htr
      refine ⟨x, hg, fun j u hu => ?_⟩
      rw [← Go.Deep.add_add, hat j (by rw [← hcl]; exact (List.getElem?_eq_some_iff.1 hu).1)]
      exact hu)
    subst h1
    refine ⟨some a, _, xs, rfl, hl, hm, fun x hx => ?_, some a, _, rfl, fun h => (by cases h), fun ad had j u hu => ?_⟩
    · obtain ⟨i, hi'⟩ := List.getElem?_of_mem hx
      exact (h2 i x hi').1
    · cases had
      obtain ⟨x, hx, hu'⟩ := flatMap_get cells k hk xs j u hu h0
      have := (h2 _ _ hx).2 _ _ hu'
      rwa [show j / k * k + j % k = j by rw [Nat.mul_comm]; exact Nat.div_add_mod j k] at this

/-- a slice of bytes that came in -/
theorem open_bytes {t e : TypeId} {r : Reach} {b0 : Nat} {v : Value} {d : DataW H} {ps : List MemPlace} (ht : P.underlying t = some (.slice e)) (he : P.underlying e = some (.int .u8)) (hC : P.cellsOf e = 1)
    (hval : Value.okWide P w r b0 t v) (h : DataW.Trod enc P w 0 (fun _ => true) held t v d ps) :
    ∃ (ao : Option Addr) (c : Nat) (bs : List UInt8), v = .slice ao bs.length c ∧ bs.length ≤ c ∧ c ≤ maxLen ∧ reads v bs.length (bs.map fun b => Value.int .u8 b.toNat) w := by
  obtain ⟨ao, c, xs, h1, h2, h3, _, h4⟩ := open_row ht (fun b : UInt8 => [Value.int .u8 (b.toNat : Int)]) (fun _ => True) (k := 1) (fun _ => rfl) (by omega) hC hval h (fun m cs y hl hy => by
    obtain ⟨n, rfl, _, hw⟩ := DataW.trod_int he hy
    refine ⟨UInt8.ofNat n.toNat, trivial, ?_⟩
    obtain ⟨h1, h2⟩ : 0 ≤ n ∧ n ≤ 255 := by simpa [Lit.wf, IntKind.min, IntKind.max, IntKind.signed, IntKind.bits] using hw
    rw [UInt8.toNat_ofNat', show n.toNat % 2 ^ 8 = n.toNat by omega, Int.toNat_of_nonneg h1])
  refine ⟨ao, c, xs, h1, h2, h3, ?_⟩
  have e : ∀ l : List UInt8, l.flatMap (fun b => [Value.int .u8 (b.toNat : Int)]) = l.map fun b => Value.int .u8 b.toNat := by
    intro l
    induction l with
    | nil => rfl
    | cons x l ih => simp [List.flatMap_cons, ih]
  rwa [e] at h4
end
end Go.SL
