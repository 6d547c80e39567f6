/-
  What a chunk among the arguments of a law holds when a call begins.
-/
import Derived.Test.YtohdljcpaogokaaCkk
import Derived.Lib.SmallJoins
namespace Go.Proofs.Ytohdljcpaogokaa
open Go.RowKit Go.SL Go.ChangeShapes Go.WideShapes Go.Deep
section
variable {H : Type} {enc : TypeId × Value → H} {w : World} {held : Bool}

theorem cells5 : Try.prog.cellsOf 9 = 1 ∧ Try.prog.cellsOf 4 = 1 ∧ Try.prog.cellsOf 56 = 32 ∧ Try.prog.cellsOf 5 = 1 ∧ Try.prog.cellsOf 57 = 1 := ⟨by kernel_rfl, by kernel_rfl, by kernel_rfl, by kernel_rfl, by kernel_rfl⟩

theorem trod_u8 {fuel : Nat} {cs : List Value} {y : DataW H × List MemPlace} (h : DataW.trod enc Try.prog w 0 (fun _ => true) held fuel 5 cs = some y) : ∃ u : UInt8, cs = [.int .u8 u.toNat] := by
  obtain ⟨n, e, _, hw⟩ := DataW.trod_int Try.underlying5 h
  have b : 0 ≤ n ∧ n ≤ 255 := by simpa [Lit.wf, IntKind.min, IntKind.max, IntKind.signed, IntKind.bits] using hw
  refine ⟨UInt8.ofNat n.toNat, ?_⟩
  rw [e, UInt8.toNat_ofNat', show n.toNat % 2 ^ 8 = n.toNat by omega, Int.toNat_of_nonneg b.1]

theorem trod_hash {fuel : Nat} {cs : List Value} {y : DataW H × List MemPlace} (h : DataW.trod enc Try.prog w 0 (fun _ => true) held fuel 56 cs = some y) : ∃ hs : List UInt8, hs.length = 32 ∧ cs = bvals hs := by
  obtain ⟨xs, m, _, _, hl, hx, hg⟩ := DataW.trod_array Try.underlying56 h
  obtain ⟨_, _, c56, c5, _⟩ := cells5
  rw [c56] at hl
  obtain ⟨hs, h1, h2⟩ := choose_list (fun i (b : UInt8) => cs[i]? = some (bval b)) 32 (fun i hi => by
    have g := hg i hi
    rw [c5, Nat.mul_one, List.getElem?_eq_getElem (by omega)] at g
    obtain ⟨u, hu⟩ := trod_u8 g
    refine ⟨u, ?_⟩
    have : ((cs.drop i).take 1)[0]? = some (.int .u8 u.toNat) := by rw [hu]; rfl
    rw [List.getElem?_take, if_pos (by omega), List.getElem?_drop, Nat.add_zero] at this
    exact this)
  refine ⟨hs, h1, List.ext_getElem? fun i => ?_⟩
  by_cases hi : i < 32
  · have e := h2 i hs[i] (List.getElem?_eq_getElem (by omega))
    rw [e]
    simp [bvals, List.getElem?_eq_getElem (show i < hs.length by omega)]
  · rw [List.getElem?_eq_none (by omega), List.getElem?_eq_none (by rw [bvals_length]; omega)]

theorem split36 {cs : List Value} (h : cs.length = 36) : cs = (cs.drop 0).take 1 ++ ((cs.drop 1).take 1 ++ ((cs.drop 2).take 32 ++ ((cs.drop 34).take 1 ++ (cs.drop 35).take 1))) := by
  have e : ∀ (n m : Nat), cs.drop n = (cs.drop n).take m ++ cs.drop (n + m) := fun n m => by
    have := (List.take_append_drop m (cs.drop n)).symm
    rwa [List.drop_drop] at this
  have h0 := e 0 1
  have h1 := e 1 1
  have h2 := e 2 32
  have h3 := e 34 1
  have h4 : (cs.drop 35).take 1 = cs.drop 35 := List.take_of_length_le (by simp; omega)
  simp only [Nat.reduceAdd] at h0 h1 h2 h3
  rw [h4, ← h3, ← h2, ← h1, ← h0, List.drop_zero]

theorem trod_kid {fuel : Nat} {cs : List Value} {y : DataW H × List MemPlace} (hl : cs.length = 36) (h : DataW.trod enc Try.prog w 0 (fun _ => true) held fuel 118 cs = some y) : ∃ k : Kid, k.good ∧ cs = kcells k := by
  obtain ⟨ys, n, _, _, _, hyl, hg⟩ := DataW.trod_struct Try.underlying118 h
  obtain ⟨c9, c4, c56, c5, c57⟩ := cells5
  obtain ⟨y0, y1, y2, y3, y4, rfl⟩ := list5 (l := ys) hyl
  have g0 : DataW.trod enc Try.prog w 0 (fun _ => true) held n 9 ((cs.drop 0).take (Try.prog.cellsOf 9)) = some y0 := hg 0 _ rfl
  have g1 : DataW.trod enc Try.prog w 0 (fun _ => true) held n 4 ((cs.drop 1).take (Try.prog.cellsOf 4)) = some y1 := hg 1 _ rfl
  have g2 : DataW.trod enc Try.prog w 0 (fun _ => true) held n 56 ((cs.drop 2).take (Try.prog.cellsOf 56)) = some y2 := hg 2 _ rfl
  have g3 : DataW.trod enc Try.prog w 0 (fun _ => true) held n 5 ((cs.drop 34).take (Try.prog.cellsOf 5)) = some y3 := hg 3 _ rfl
  have g4 : DataW.trod enc Try.prog w 0 (fun _ => true) held n 57 ((cs.drop 35).take (Try.prog.cellsOf 57)) = some y4 := hg 4 _ rfl
  rw [c9] at g0
  rw [c4] at g1
  rw [c56] at g2
  rw [c5] at g3
  rw [c57] at g4
  obtain ⟨s, e0, _, _⟩ := DataW.trod_string Try.underlying9 g0
  obtain ⟨b, e1, _⟩ := DataW.trod_bool Try.underlying4 g1
  obtain ⟨hs, h32, e2⟩ := trod_hash g2
  obtain ⟨u, e3⟩ := trod_u8 g3
  obtain ⟨z, e4, _, hz⟩ := DataW.trod_int Try.underlying57 g4
  have hz' : 0 ≤ z ∧ z ≤ 4294967295 := by simpa [Lit.wf, IntKind.min, IntKind.max, IntKind.signed, IntKind.bits] using hz
  refine ⟨⟨s.data.toList, b, hs, u, z.toNat⟩, ⟨h32, by show z.toNat < _; omega⟩, ?_⟩
  rw [split36 hl, e0, e1, e2, e3, e4]
  simp only [kcells, Array.toArray_toList, Int.toNat_of_nonneg hz'.1]
  simp

/-- a slice of children in a struct that came in -/
theorem open_kids {fuel : Nat} {v : Value} {y : DataW H × List MemPlace} (h : DataW.trod enc Try.prog w 0 (fun _ => true) held fuel 43 [v] = some y) :
    ∃ (ao : Option Addr) (c : Nat) (ks : List Kid), v = .slice ao ks.length c ∧ (∀ k ∈ ks, k.good) ∧ reads v ks.length (kidCells ks) w := by
  have hC : Try.prog.cellsOf 118 = 36 := by kernel_rfl
  rcases open_slice Try.underlying43 h with ⟨hcs, _⟩ | ⟨a, len, c, m, n, D, Pl, hcs, _, hl, hm, hmm, _, hi⟩
  · simp only [List.cons.injEq, and_true] at hcs
    subst hcs
    exact ⟨none, 0, [], rfl, by simp, reads_nil 0 0 rfl w⟩
  · simp only [List.cons.injEq, and_true] at hcs
    subst hcs
    simp at hmm
    subst hmm
    obtain ⟨ks, h1, h2⟩ := choose_list (fun i (x : Kid) => x.good ∧ ∀ j u, (kcells x)[j]? = some u → w.cell? (a.add (i * 36 + j)) = some u) len (fun i hil => by
      obtain ⟨cs', hc, htr⟩ := hi i (by omega)
      rw [hC] at hc
      obtain ⟨_, hcl, hat⟩ := World.cells?_some hc
      obtain ⟨x, hg, rfl⟩ := trod_kid hcl htr
      refine ⟨x, hg, fun j u hu => ?_⟩
      rw [← Go.Deep.add_add, hat j (by rw [← hcl]; exact (List.getElem?_eq_some_iff.1 hu).1)]
      exact hu)
    subst h1
    have hgood : ∀ k ∈ ks, k.good := fun x hx => by
      obtain ⟨i, hi'⟩ := List.getElem?_of_mem hx
      exact (h2 i x hi').1
    refine ⟨some a, _, ks, rfl, hgood, some a, _, rfl, fun h => (by cases h), fun ad had j u hu => ?_⟩
    cases had
    have hj : j < ks.length * 36 := by
      have := (List.getElem?_eq_some_iff.1 hu).1
      rwa [kidCells_len hgood] at this
    have hlt : j / 36 < ks.length := by omega
    have hu' : (kcells ks[j / 36])[j % 36]? = some u := by
      have hlen := kcells_len (hgood _ (List.getElem_mem hlt))
      have h3 := List.getElem?_eq_getElem (l := kcells ks[j / 36]) (i := j % 36) (by omega)
      have h4 := kid_at hgood hlt (j % 36) _ h3
      rw [show j / 36 * 36 + j % 36 = j by omega] at h4
      rw [h3, ← h4]
      exact hu
    have := (h2 _ _ (List.getElem?_eq_getElem hlt)).2 _ _ hu'
    rwa [show j / 36 * 36 + j % 36 = j by omega] at this

set_option maxRecDepth 100000 in
theorem open_chunk {r : Reach} {b0 : Nat} {v : Value} {d : DataW H} {ps : List MemPlace} (hval : Value.okWide Try.prog w r b0 45 v) (h : DataW.Trod enc Try.prog w 0 (fun _ => true) held 45 v d ps) :
    ∃ (u : UInt8) (dat : List UInt8) (ks : List Kid) (ao : Option Addr) (c : Nat), v = .agg #[.int .u8 u.toNat, .string ⟨dat.toArray⟩, .slice ao ks.length c] ∧ (∀ k ∈ ks, k.good) ∧ reads (.slice ao ks.length c) ks.length (kidCells ks) w := by
  obtain ⟨v0, v1, v2, y0, y1, y2, n, rfl, _, _, h0, h1, h2⟩ := Go.Joins.open_agg3 Try.underlying45 (by kernel_rfl) (by kernel_rfl) hval h
  obtain ⟨u, e0⟩ := trod_u8 h0
  obtain ⟨s, e1, _, _⟩ := DataW.trod_string Try.underlying9 h1
  obtain ⟨ao, c, ks, e2, hg, hr⟩ := open_kids h2
  simp only [List.cons.injEq, and_true] at e0 e1
  subst e0 e1 e2
  exact ⟨u, s.data.toList, ks, ao, c, by simp, hg, hr⟩
end
end Go.Proofs.Ytohdljcpaogokaa
