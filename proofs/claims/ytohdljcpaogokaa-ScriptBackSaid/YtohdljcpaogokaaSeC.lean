/-
  Which calls the document lets be. Printed by gen_sed.py.
-/
import Derived.Test.YtohdljcpaogokaaSeB
namespace Go.Proofs.Ytohdljcpaogokaa
open Go.RowKit Go.SL

theorem may_part {x : SE} (h : (hasName x.do_ = false ∧ x.name ≠ []) ∨ (hasPath x.do_ = false ∧ x.path ≠ []) ∨ (hasTree x.do_ = false ∧ x.tree ≠ []) ∨ (hasActs x.do_ = false ∧ x.acts ≠ 0) ∨ (hasKeep x.do_ = false ∧ x.keep ≠ [])) : mayE x = false := by
  rw [← Bool.not_eq_true]
  intro hm
  simp only [mayE, Bool.and_eq_true, Bool.or_eq_true, List.isEmpty_iff, beq_iff_eq] at hm
  obtain ⟨_, _, h1, h2, h3, h4, h5⟩ := hm
  rcases h with ⟨a, b⟩ | ⟨a, b⟩ | ⟨a, b⟩ | ⟨a, b⟩ | ⟨a, b⟩
  · exact b (h1.resolve_left (by simp [a]))
  · exact b (h2.resolve_left (by simp [a]))
  · exact b (h3.resolve_left (by simp [a]))
  · exact b (h4.resolve_left (by simp [a]))
  · exact b (h5.resolve_left (by simp [a]))
theorem may_size {x : SE} (h : 10 < x.do_.toNat ∨ 255 < x.name.length ∨ 255 < x.path.length ∨ 255 < x.keep.length ∨ 255 < x.tree.length) : mayE x = false := by
  rw [← Bool.not_eq_true]
  intro hm
  simp only [mayE, fitsE, Bool.and_eq_true, Bool.or_eq_true, Bool.not_eq_true', List.isEmpty_iff, beq_iff_eq, decide_eq_true_eq] at hm
  obtain ⟨h0, ⟨f1, f2, f3, f4⟩, h1, h2, h3, _, h5⟩ := hm
  have l0 : ([] : List UInt8).length = 0 := rfl
  rcases h with h | h | h | h | h
  · omega
  · rcases h1 with h1 | h1
    · have := f1.resolve_left (by simp [h1]); omega
    · rw [h1] at h; omega
  · rcases h2 with h1 | h1
    · have := f2.resolve_left (by simp [h1]); omega
    · rw [h1] at h; omega
  · rcases h5 with h1 | h1
    · have := f4.resolve_left (by simp [h1]); omega
    · rw [h1] at h; omega
  · rcases h3 with h1 | h1
    · have := f3.resolve_left (by simp [h1]); omega
    · rw [h1] at h; simp at h
theorem may_yes {x : SE} (h10 : x.do_.toNat ≤ 10) (s1 : x.name.length ≤ 255) (s2 : x.path.length ≤ 255) (s3 : x.keep.length ≤ 255) (s4 : x.tree.length ≤ 255)
    (h1 : hasName x.do_ = true ∨ x.name = []) (h2 : hasPath x.do_ = true ∨ x.path = []) (h3 : hasTree x.do_ = true ∨ x.tree = []) (h4 : hasActs x.do_ = true ∨ x.acts = 0) (h5 : hasKeep x.do_ = true ∨ x.keep = []) : mayE x = x.tree.all teOk := by
  have e1 : (hasName x.do_ || x.name.isEmpty) = true := by simpa using h1
  have e2 : (hasPath x.do_ || x.path.isEmpty) = true := by simpa using h2
  have e3 : (hasTree x.do_ || x.tree.isEmpty) = true := by simpa using h3
  have e4 : (hasActs x.do_ || x.acts == 0) = true := by simpa using h4
  have e5 : (hasKeep x.do_ || x.keep.isEmpty) = true := by simpa using h5
  have ef : fitsE x = x.tree.all teOk := by
    unfold fitsE
    rw [decide_eq_true s1, decide_eq_true s2, decide_eq_true s3, decide_eq_true s4]
    simp only [Bool.or_true, Bool.true_and, Bool.and_true]
    rcases h3 with h | h
    · simp [h]
    · simp [h]
  rw [mayE, e1, e2, e3, e4, e5, ef, decide_eq_true h10]
  simp
theorem may_sizes {x : SE} (h : mayE x = true) : x.name.length ≤ 255 ∧ x.path.length ≤ 255 ∧ x.keep.length ≤ 255 ∧ x.tree.length ≤ 255 ∧ x.tree.all teOk = true := by
  have hs : ¬ (10 < x.do_.toNat ∨ 255 < x.name.length ∨ 255 < x.path.length ∨ 255 < x.keep.length ∨ 255 < x.tree.length) := fun g => by rw [may_size g] at h; cases h
  refine ⟨by omega, by omega, by omega, by omega, ?_⟩
  simp only [mayE, fitsE, Bool.and_eq_true, Bool.or_eq_true, Bool.not_eq_true', List.isEmpty_iff] at h
  obtain ⟨_, ⟨_, _, f3, _⟩, _, _, h3, _⟩ := h
  rcases h3 with h3 | h3
  · exact (f3.resolve_left (by simp [h3])).2
  · rw [h3]; rfl
theorem ne_str {s : List UInt8} (h : s ≠ []) : ((⟨s.toArray⟩ : ByteArray) == ⟨#[]⟩) = false ∧ (s == []) = false ∧ s.isEmpty = false := by
  refine ⟨?_, by simpa using h, by simpa using h⟩
  have := mk_beq s []
  rw [show ((⟨#[]⟩ : ByteArray) = ⟨([] : List UInt8).toArray⟩) from rfl, this]
  simpa using h
def MyRel (t : List TE) (l : List HProp) (i : Value) (wr : World) : Prop := ∃ k : Nat, k ≤ t.length ∧ i = .int .i64 k ∧ (t.take k).all teOk = true ∧ Ent l wr

set_option maxRecDepth 100000 in
theorem may27_size {x : SE} {ao : Option Addr} {c : Nat} (h : 10 < x.do_.toNat ∨ 255 < x.name.length ∨ 255 < x.path.length ∨ 255 < x.keep.length ∨ 255 < x.tree.length) {l : List HProp} {w : World} (hE : Ent l w) :
    Calls Try.prog 49 #[.agg (xcells x ao c).toArray] w (Ret fun v w' => v = .bool (mayE x) ∧ Ent l w') := by
  rw [may_size h]
  unfold xcells
  have h' : (10 : Int) < (x.do_.toNat : Int) ∨ (255 : Int) < (x.name.length : Int) ∨ (255 : Int) < (x.path.length : Int) ∨ (255 : Int) < (x.keep.length : Int) ∨ (255 : Int) < (x.tree.length : Int) := by omega
  clear h
  obtain ⟨d, name, path, tree, acts, keep⟩ := x
  simp only at *
  generalize d.toNat = dn at *
  go_enter Try.func49, Try.ntmps49
  by_cases c0 : (10 : Int) < (dn : Int)
  · clear h'
    go_wp2_with (first
      | go_skip
      | ((with_reducible (show Go.wpList _ _ _ (Go.Oper.mk _ (.box _ _) _ _ _ _ :: _) _ _)); refine wpl_box hE rfl rfl rfl ?_; clear hE; intro b2 w hE; simp only [Act.eval, Act.put, List.setIfInBounds_toArray, List.set_cons_zero, List.set_cons_succ, getD_lit, List.getD_cons_succ, List.getD_cons_zero, Value.cells] at hE)
      | ((with_reducible (show Go.wpList _ _ _ (Go.Oper.mk _ (.load _ _) _ _ _ _ :: _) _ _)); first | (refine wpl_load1 hE 0 rfl rfl rfl rfl (by simp [go_sem]) rfl ?_) | (refine wpl_load1 hE 1 rfl rfl rfl rfl (by simp [go_sem]) rfl ?_) | (refine wpl_load1 hE 2 rfl rfl rfl rfl (by simp [go_sem]) rfl ?_) | (refine wpl_load1 hE 3 rfl rfl rfl rfl (by simp [go_sem]) rfl ?_) | (refine wpl_load1 hE 4 rfl rfl rfl rfl (by simp [go_sem]) rfl ?_) | (refine wpl_load1 hE 5 rfl rfl rfl rfl (by simp [go_sem]) rfl ?_)))
    go_ret
    exact ⟨_, rfl, rfl, hE.tail⟩
  · have d0 : decide ((10 : Int) < (dn : Int)) = false := decide_eq_false c0
    replace h' := h'.resolve_left c0
    clear c0
    by_cases c1 : (255 : Int) < (name.length : Int)
    · clear h'
      go_wp2_with (first
        | go_skip
        | ((with_reducible (show Go.wpList _ _ _ (Go.Oper.mk _ (.box _ _) _ _ _ _ :: _) _ _)); refine wpl_box hE rfl rfl rfl ?_; clear hE; intro b2 w hE; simp only [Act.eval, Act.put, List.setIfInBounds_toArray, List.set_cons_zero, List.set_cons_succ, getD_lit, List.getD_cons_succ, List.getD_cons_zero, Value.cells] at hE)
        | ((with_reducible (show Go.wpList _ _ _ (Go.Oper.mk _ (.load _ _) _ _ _ _ :: _) _ _)); first | (refine wpl_load1 hE 0 rfl rfl rfl rfl (by simp [go_sem]) rfl ?_) | (refine wpl_load1 hE 1 rfl rfl rfl rfl (by simp [go_sem]) rfl ?_) | (refine wpl_load1 hE 2 rfl rfl rfl rfl (by simp [go_sem]) rfl ?_) | (refine wpl_load1 hE 3 rfl rfl rfl rfl (by simp [go_sem]) rfl ?_) | (refine wpl_load1 hE 4 rfl rfl rfl rfl (by simp [go_sem]) rfl ?_) | (refine wpl_load1 hE 5 rfl rfl rfl rfl (by simp [go_sem]) rfl ?_)))
      go_ret
      exact ⟨_, rfl, rfl, hE.tail⟩
    · have d1 : decide ((255 : Int) < (name.length : Int)) = false := decide_eq_false c1
      replace h' := h'.resolve_left c1
      clear c1
      by_cases c2 : (255 : Int) < (path.length : Int)
      · clear h'
        go_wp2_with (first
          | go_skip
          | ((with_reducible (show Go.wpList _ _ _ (Go.Oper.mk _ (.box _ _) _ _ _ _ :: _) _ _)); refine wpl_box hE rfl rfl rfl ?_; clear hE; intro b2 w hE; simp only [Act.eval, Act.put, List.setIfInBounds_toArray, List.set_cons_zero, List.set_cons_succ, getD_lit, List.getD_cons_succ, List.getD_cons_zero, Value.cells] at hE)
          | ((with_reducible (show Go.wpList _ _ _ (Go.Oper.mk _ (.load _ _) _ _ _ _ :: _) _ _)); first | (refine wpl_load1 hE 0 rfl rfl rfl rfl (by simp [go_sem]) rfl ?_) | (refine wpl_load1 hE 1 rfl rfl rfl rfl (by simp [go_sem]) rfl ?_) | (refine wpl_load1 hE 2 rfl rfl rfl rfl (by simp [go_sem]) rfl ?_) | (refine wpl_load1 hE 3 rfl rfl rfl rfl (by simp [go_sem]) rfl ?_) | (refine wpl_load1 hE 4 rfl rfl rfl rfl (by simp [go_sem]) rfl ?_) | (refine wpl_load1 hE 5 rfl rfl rfl rfl (by simp [go_sem]) rfl ?_)))
        go_ret
        exact ⟨_, rfl, rfl, hE.tail⟩
      · have d2 : decide ((255 : Int) < (path.length : Int)) = false := decide_eq_false c2
        replace h' := h'.resolve_left c2
        clear c2
        by_cases c3 : (255 : Int) < (keep.length : Int)
        · clear h'
          go_wp2_with (first
            | go_skip
            | ((with_reducible (show Go.wpList _ _ _ (Go.Oper.mk _ (.box _ _) _ _ _ _ :: _) _ _)); refine wpl_box hE rfl rfl rfl ?_; clear hE; intro b2 w hE; simp only [Act.eval, Act.put, List.setIfInBounds_toArray, List.set_cons_zero, List.set_cons_succ, getD_lit, List.getD_cons_succ, List.getD_cons_zero, Value.cells] at hE)
            | ((with_reducible (show Go.wpList _ _ _ (Go.Oper.mk _ (.load _ _) _ _ _ _ :: _) _ _)); first | (refine wpl_load1 hE 0 rfl rfl rfl rfl (by simp [go_sem]) rfl ?_) | (refine wpl_load1 hE 1 rfl rfl rfl rfl (by simp [go_sem]) rfl ?_) | (refine wpl_load1 hE 2 rfl rfl rfl rfl (by simp [go_sem]) rfl ?_) | (refine wpl_load1 hE 3 rfl rfl rfl rfl (by simp [go_sem]) rfl ?_) | (refine wpl_load1 hE 4 rfl rfl rfl rfl (by simp [go_sem]) rfl ?_) | (refine wpl_load1 hE 5 rfl rfl rfl rfl (by simp [go_sem]) rfl ?_)))
          go_ret
          exact ⟨_, rfl, rfl, hE.tail⟩
        · have d3 : decide ((255 : Int) < (keep.length : Int)) = false := decide_eq_false c3
          replace h' := h'.resolve_left c3
          clear c3
          have c4 : (255 : Int) < (tree.length : Int) := by omega
          clear h'
          go_wp2_with (first
            | go_skip
            | ((with_reducible (show Go.wpList _ _ _ (Go.Oper.mk _ (.box _ _) _ _ _ _ :: _) _ _)); refine wpl_box hE rfl rfl rfl ?_; clear hE; intro b2 w hE; simp only [Act.eval, Act.put, List.setIfInBounds_toArray, List.set_cons_zero, List.set_cons_succ, getD_lit, List.getD_cons_succ, List.getD_cons_zero, Value.cells] at hE)
            | ((with_reducible (show Go.wpList _ _ _ (Go.Oper.mk _ (.load _ _) _ _ _ _ :: _) _ _)); first | (refine wpl_load1 hE 0 rfl rfl rfl rfl (by simp [go_sem]) rfl ?_) | (refine wpl_load1 hE 1 rfl rfl rfl rfl (by simp [go_sem]) rfl ?_) | (refine wpl_load1 hE 2 rfl rfl rfl rfl (by simp [go_sem]) rfl ?_) | (refine wpl_load1 hE 3 rfl rfl rfl rfl (by simp [go_sem]) rfl ?_) | (refine wpl_load1 hE 4 rfl rfl rfl rfl (by simp [go_sem]) rfl ?_) | (refine wpl_load1 hE 5 rfl rfl rfl rfl (by simp [go_sem]) rfl ?_)))
          go_ret
          exact ⟨_, rfl, rfl, hE.tail⟩

set_option maxRecDepth 100000 in
set_option maxHeartbeats 2000000 in
theorem may27_0 {name path keep : List UInt8} {tree : List TE} {acts : Nat} {ao : Option Addr} {c : Nat} (s1 : name.length ≤ 255) (s2 : path.length ≤ 255) (s3 : keep.length ≤ 255) (s4 : tree.length ≤ 255) {l : List HProp} {w : World} (hE : Ent l w)
    (hk : Knows l (reads (.slice ao tree.length c) tree.length (treeCells tree))) :
    Calls Try.prog 49 #[.agg #[.int .u8 0, .string ⟨name.toArray⟩, .string ⟨path.toArray⟩, .slice ao tree.length c, .int .u16 acts, .string ⟨keep.toArray⟩]] w (Ret fun v w' => v = .bool (mayE ⟨0, name, path, tree, acts, keep⟩) ∧ Ent l w') := by
  have z1 : decide ((255 : Int) < (name.length : Int)) = false := decide_eq_false (by omega)
  have z2 : decide ((255 : Int) < (path.length : Int)) = false := decide_eq_false (by omega)
  have z3 : decide ((255 : Int) < (keep.length : Int)) = false := decide_eq_false (by omega)
  have z4 : decide ((255 : Int) < (tree.length : Int)) = false := decide_eq_false (by omega)
  by_cases eP : path = []
  rotate_left
  · have R := SL.hid (may_part (x := ⟨0, name, path, tree, acts, keep⟩) (.inr (.inl ⟨rfl, eP⟩)))
    obtain ⟨f, f2, f3⟩ := ne_str eP
    clear eP
    go_enter Try.func49, Try.ntmps49
    go_wp2_with (first
      | go_skip
      | ((with_reducible (show Go.wpList _ _ _ (Go.Oper.mk _ (.box _ _) _ _ _ _ :: _) _ _)); refine wpl_box hE rfl rfl rfl ?_; clear hE; intro b2 w hE; simp only [Act.eval, Act.put, List.setIfInBounds_toArray, List.set_cons_zero, List.set_cons_succ, getD_lit, List.getD_cons_succ, List.getD_cons_zero, Value.cells] at hE)
      | ((with_reducible (show Go.wpList _ _ _ (Go.Oper.mk _ (.load _ _) _ _ _ _ :: _) _ _)); first | (refine wpl_load1 hE 0 rfl rfl rfl rfl (by simp [go_sem]) rfl ?_) | (refine wpl_load1 hE 1 rfl rfl rfl rfl (by simp [go_sem]) rfl ?_) | (refine wpl_load1 hE 2 rfl rfl rfl rfl (by simp [go_sem]) rfl ?_) | (refine wpl_load1 hE 3 rfl rfl rfl rfl (by simp [go_sem]) rfl ?_) | (refine wpl_load1 hE 4 rfl rfl rfl rfl (by simp [go_sem]) rfl ?_) | (refine wpl_load1 hE 5 rfl rfl rfl rfl (by simp [go_sem]) rfl ?_)))
    go_ret
    exact ⟨_, rfl, by rw [R.out]; rfl, hE.tail⟩
  subst eP
  by_cases eA : acts = 0
  rotate_left
  · have R := SL.hid (may_part (x := ⟨0, name, [], tree, acts, keep⟩) (.inr (.inr (.inr (.inl ⟨rfl, eA⟩)))))
    have f : ((acts : Int) != 0) = true := by simpa using eA
    clear eA
    go_enter Try.func49, Try.ntmps49
    go_wp2_with (first
      | go_skip
      | ((with_reducible (show Go.wpList _ _ _ (Go.Oper.mk _ (.box _ _) _ _ _ _ :: _) _ _)); refine wpl_box hE rfl rfl rfl ?_; clear hE; intro b2 w hE; simp only [Act.eval, Act.put, List.setIfInBounds_toArray, List.set_cons_zero, List.set_cons_succ, getD_lit, List.getD_cons_succ, List.getD_cons_zero, Value.cells] at hE)
      | ((with_reducible (show Go.wpList _ _ _ (Go.Oper.mk _ (.load _ _) _ _ _ _ :: _) _ _)); first | (refine wpl_load1 hE 0 rfl rfl rfl rfl (by simp [go_sem]) rfl ?_) | (refine wpl_load1 hE 1 rfl rfl rfl rfl (by simp [go_sem]) rfl ?_) | (refine wpl_load1 hE 2 rfl rfl rfl rfl (by simp [go_sem]) rfl ?_) | (refine wpl_load1 hE 3 rfl rfl rfl rfl (by simp [go_sem]) rfl ?_) | (refine wpl_load1 hE 4 rfl rfl rfl rfl (by simp [go_sem]) rfl ?_) | (refine wpl_load1 hE 5 rfl rfl rfl rfl (by simp [go_sem]) rfl ?_)))
    go_ret
    exact ⟨_, rfl, by rw [R.out]; rfl, hE.tail⟩
  subst eA
  by_cases eK : keep = []
  rotate_left
  · have R := SL.hid (may_part (x := ⟨0, name, [], tree, 0, keep⟩) (.inr (.inr (.inr (.inr ⟨rfl, eK⟩)))))
    obtain ⟨f, f2, f3⟩ := ne_str eK
    clear eK
    go_enter Try.func49, Try.ntmps49
    go_wp2_with (first
      | go_skip
      | ((with_reducible (show Go.wpList _ _ _ (Go.Oper.mk _ (.box _ _) _ _ _ _ :: _) _ _)); refine wpl_box hE rfl rfl rfl ?_; clear hE; intro b2 w hE; simp only [Act.eval, Act.put, List.setIfInBounds_toArray, List.set_cons_zero, List.set_cons_succ, getD_lit, List.getD_cons_succ, List.getD_cons_zero, Value.cells] at hE)
      | ((with_reducible (show Go.wpList _ _ _ (Go.Oper.mk _ (.load _ _) _ _ _ _ :: _) _ _)); first | (refine wpl_load1 hE 0 rfl rfl rfl rfl (by simp [go_sem]) rfl ?_) | (refine wpl_load1 hE 1 rfl rfl rfl rfl (by simp [go_sem]) rfl ?_) | (refine wpl_load1 hE 2 rfl rfl rfl rfl (by simp [go_sem]) rfl ?_) | (refine wpl_load1 hE 3 rfl rfl rfl rfl (by simp [go_sem]) rfl ?_) | (refine wpl_load1 hE 4 rfl rfl rfl rfl (by simp [go_sem]) rfl ?_) | (refine wpl_load1 hE 5 rfl rfl rfl rfl (by simp [go_sem]) rfl ?_)))
    go_ret
    exact ⟨_, rfl, by rw [R.out]; rfl, hE.tail⟩
  subst eK
  have R := SL.hid (may_yes (x := ⟨0, name, [], tree, 0, []⟩) (show (0 : UInt8).toNat ≤ 10 by decide) s1 s2 s3 s4 (.inl rfl) (.inr rfl) (.inl rfl) (.inr rfl) (.inr rfl))
  go_enter Try.func49, Try.ntmps49
  go_wp2_with (first
    | go_skip
    | ((with_reducible (show Go.wpList _ _ _ (Go.Oper.mk _ (.box _ _) _ _ _ _ :: _) _ _)); refine wpl_box hE rfl rfl rfl ?_; clear hE; intro b2 w hE; simp only [Act.eval, Act.put, List.setIfInBounds_toArray, List.set_cons_zero, List.set_cons_succ, getD_lit, List.getD_cons_succ, List.getD_cons_zero, Value.cells] at hE)
    | ((with_reducible (show Go.wpList _ _ _ (Go.Oper.mk _ (.load _ _) _ _ _ _ :: _) _ _)); first | (refine wpl_load1 hE 0 rfl rfl rfl rfl (by simp [go_sem]) rfl ?_) | (refine wpl_load1 hE 1 rfl rfl rfl rfl (by simp [go_sem]) rfl ?_) | (refine wpl_load1 hE 2 rfl rfl rfl rfl (by simp [go_sem]) rfl ?_) | (refine wpl_load1 hE 3 rfl rfl rfl rfl (by simp [go_sem]) rfl ?_) | (refine wpl_load1 hE 4 rfl rfl rfl rfl (by simp [go_sem]) rfl ?_) | (refine wpl_load1 hE 5 rfl rfl rfl rfl (by simp [go_sem]) rfl ?_)))
  go_loopw [4] (fun i wr => MyRel tree (pt b2 (.cells #[.int .u8 0, .string ⟨name.toArray⟩, .string ⟨#[]⟩, .slice ao tree.length c, .int .u16 0, .string ⟨#[]⟩] 84) :: l) i wr) (fun i _ => tree.length - (intOf i).toNat)
  case atStart => exact ⟨0, Nat.zero_le _, rfl, rfl, hE⟩
  case round =>
    clear hE
    obtain ⟨k, hkl, rfl, hall, hE⟩ := hrel
    have Hall := SL.hid hall
    clear hall
    by_cases hlt : k < tree.length
    · obtain ⟨ba, oa, rfl, _⟩ := reads_form (hk _ hE.tail) (by omega) (by rw [treeCells_len]; omega)
      have hcx := te_cells (hk _ hE.tail) hlt
      have Hs := SL.hid (show (tree.take (k + 1)).all teOk = (teOk tree[k]) by rw [List.take_succ_eq_append_getElem hlt, List.all_append, Hall.out]; simp)
      have Hno := SL.hid (show teOk tree[k] = false → tree.all teOk = false from fun h => List.all_eq_false.2 ⟨_, List.getElem_mem hlt, by simp [h]⟩)
      generalize tree[k] = y at *
      obtain ⟨yp, yd, ydat⟩ := y
      have k0 := hcx 0 _ rfl
      have k2 := hcx 2 _ rfl
      simp only [Addr.add_lit, Nat.add_zero] at k0 k2
      clear hcx
      by_cases a1 : (255 : Int) < (yp.length : Int)
      · have Ho := SL.hid (show teOk ⟨yp, yd, ydat⟩ = false by simp [teOk]; omega)
        go_wp2_with (first
          | go_skip
          | ((with_reducible (show Go.wpList _ _ _ (Go.Oper.mk _ (.load _ _) _ _ _ _ :: _) _ _)); first | (refine wpl_load1 hE 0 rfl rfl rfl rfl (by simp [go_sem]) rfl ?_) | (refine wpl_load1 hE 1 rfl rfl rfl rfl (by simp [go_sem]) rfl ?_) | (refine wpl_load1 hE 2 rfl rfl rfl rfl (by simp [go_sem]) rfl ?_) | (refine wpl_load1 hE 3 rfl rfl rfl rfl (by simp [go_sem]) rfl ?_) | (refine wpl_load1 hE 4 rfl rfl rfl rfl (by simp [go_sem]) rfl ?_) | (refine wpl_load1 hE 5 rfl rfl rfl rfl (by simp [go_sem]) rfl ?_)))
        go_ret
        exact ⟨_, rfl, by rw [R.out, Hno.out Ho.out]; rfl, hE.tail⟩
      by_cases a2 : (65535 : Int) < (ydat.length : Int)
      · have Ho := SL.hid (show teOk ⟨yp, yd, ydat⟩ = false by simp [teOk]; omega)
        have d1 : decide ((255 : Int) < (yp.length : Int)) = false := decide_eq_false a1
        clear a1
        go_wp2_with (first
          | go_skip
          | ((with_reducible (show Go.wpList _ _ _ (Go.Oper.mk _ (.load _ _) _ _ _ _ :: _) _ _)); first | (refine wpl_load1 hE 0 rfl rfl rfl rfl (by simp [go_sem]) rfl ?_) | (refine wpl_load1 hE 1 rfl rfl rfl rfl (by simp [go_sem]) rfl ?_) | (refine wpl_load1 hE 2 rfl rfl rfl rfl (by simp [go_sem]) rfl ?_) | (refine wpl_load1 hE 3 rfl rfl rfl rfl (by simp [go_sem]) rfl ?_) | (refine wpl_load1 hE 4 rfl rfl rfl rfl (by simp [go_sem]) rfl ?_) | (refine wpl_load1 hE 5 rfl rfl rfl rfl (by simp [go_sem]) rfl ?_)))
        go_ret
        exact ⟨_, rfl, by rw [R.out, Hno.out Ho.out]; rfl, hE.tail⟩
      have Ho := SL.hid (show teOk ⟨yp, yd, ydat⟩ = true by simp [teOk]; omega)
      have d1 : decide ((255 : Int) < (yp.length : Int)) = false := decide_eq_false a1
      have d2 : decide ((65535 : Int) < (ydat.length : Int)) = false := decide_eq_false a2
      clear a1 a2
      go_wp2_with (first
        | go_skip
        | ((with_reducible (show Go.wpList _ _ _ (Go.Oper.mk _ (.load _ _) _ _ _ _ :: _) _ _)); first | (refine wpl_load1 hE 0 rfl rfl rfl rfl (by simp [go_sem]) rfl ?_) | (refine wpl_load1 hE 1 rfl rfl rfl rfl (by simp [go_sem]) rfl ?_) | (refine wpl_load1 hE 2 rfl rfl rfl rfl (by simp [go_sem]) rfl ?_) | (refine wpl_load1 hE 3 rfl rfl rfl rfl (by simp [go_sem]) rfl ?_) | (refine wpl_load1 hE 4 rfl rfl rfl rfl (by simp [go_sem]) rfl ?_) | (refine wpl_load1 hE 5 rfl rfl rfl rfl (by simp [go_sem]) rfl ?_)))
      go_roundw
      case rel => exact ⟨k + 1, hlt, by simp, by rw [Hs.out, Ho.out], hE⟩
      case measure => simp [intOf]; omega
    · have e : k = tree.length := by omega
      subst e
      have Ht := SL.hid (show tree.all teOk = true by have := Hall.out; rwa [List.take_length] at this)
      go_wp2_with (first
        | go_skip
        | ((with_reducible (show Go.wpList _ _ _ (Go.Oper.mk _ (.load _ _) _ _ _ _ :: _) _ _)); first | (refine wpl_load1 hE 0 rfl rfl rfl rfl (by simp [go_sem]) rfl ?_) | (refine wpl_load1 hE 1 rfl rfl rfl rfl (by simp [go_sem]) rfl ?_) | (refine wpl_load1 hE 2 rfl rfl rfl rfl (by simp [go_sem]) rfl ?_) | (refine wpl_load1 hE 3 rfl rfl rfl rfl (by simp [go_sem]) rfl ?_) | (refine wpl_load1 hE 4 rfl rfl rfl rfl (by simp [go_sem]) rfl ?_) | (refine wpl_load1 hE 5 rfl rfl rfl rfl (by simp [go_sem]) rfl ?_)))
      go_ret
      exact ⟨_, rfl, by rw [R.out, Ht.out]; rfl, hE.tail⟩

set_option maxRecDepth 100000 in
set_option maxHeartbeats 2000000 in
theorem may27_1 {name path keep : List UInt8} {tree : List TE} {acts : Nat} {ao : Option Addr} {c : Nat} (s1 : name.length ≤ 255) (s2 : path.length ≤ 255) (s3 : keep.length ≤ 255) (s4 : tree.length ≤ 255) {l : List HProp} {w : World} (hE : Ent l w)
    (hk : Knows l (reads (.slice ao tree.length c) tree.length (treeCells tree))) :
    Calls Try.prog 49 #[.agg #[.int .u8 1, .string ⟨name.toArray⟩, .string ⟨path.toArray⟩, .slice ao tree.length c, .int .u16 acts, .string ⟨keep.toArray⟩]] w (Ret fun v w' => v = .bool (mayE ⟨1, name, path, tree, acts, keep⟩) ∧ Ent l w') := by
  have z1 : decide ((255 : Int) < (name.length : Int)) = false := decide_eq_false (by omega)
  have z2 : decide ((255 : Int) < (path.length : Int)) = false := decide_eq_false (by omega)
  have z3 : decide ((255 : Int) < (keep.length : Int)) = false := decide_eq_false (by omega)
  have z4 : decide ((255 : Int) < (tree.length : Int)) = false := decide_eq_false (by omega)
  by_cases eP : path = []
  rotate_left
  · have R := SL.hid (may_part (x := ⟨1, name, path, tree, acts, keep⟩) (.inr (.inl ⟨rfl, eP⟩)))
    obtain ⟨f, f2, f3⟩ := ne_str eP
    clear eP
    go_enter Try.func49, Try.ntmps49
    go_wp2_with (first
      | go_skip
      | ((with_reducible (show Go.wpList _ _ _ (Go.Oper.mk _ (.box _ _) _ _ _ _ :: _) _ _)); refine wpl_box hE rfl rfl rfl ?_; clear hE; intro b2 w hE; simp only [Act.eval, Act.put, List.setIfInBounds_toArray, List.set_cons_zero, List.set_cons_succ, getD_lit, List.getD_cons_succ, List.getD_cons_zero, Value.cells] at hE)
      | ((with_reducible (show Go.wpList _ _ _ (Go.Oper.mk _ (.load _ _) _ _ _ _ :: _) _ _)); first | (refine wpl_load1 hE 0 rfl rfl rfl rfl (by simp [go_sem]) rfl ?_) | (refine wpl_load1 hE 1 rfl rfl rfl rfl (by simp [go_sem]) rfl ?_) | (refine wpl_load1 hE 2 rfl rfl rfl rfl (by simp [go_sem]) rfl ?_) | (refine wpl_load1 hE 3 rfl rfl rfl rfl (by simp [go_sem]) rfl ?_) | (refine wpl_load1 hE 4 rfl rfl rfl rfl (by simp [go_sem]) rfl ?_) | (refine wpl_load1 hE 5 rfl rfl rfl rfl (by simp [go_sem]) rfl ?_)))
    go_ret
    exact ⟨_, rfl, by rw [R.out]; rfl, hE.tail⟩
  subst eP
  by_cases eT : tree = []
  rotate_left
  · have R := SL.hid (may_part (x := ⟨1, name, [], tree, acts, keep⟩) (.inr (.inr (.inl ⟨rfl, eT⟩))))
    have f : 0 < tree.length := List.length_pos_iff.2 eT
    clear eT
    go_enter Try.func49, Try.ntmps49
    go_wp2_with (first
      | go_skip
      | ((with_reducible (show Go.wpList _ _ _ (Go.Oper.mk _ (.box _ _) _ _ _ _ :: _) _ _)); refine wpl_box hE rfl rfl rfl ?_; clear hE; intro b2 w hE; simp only [Act.eval, Act.put, List.setIfInBounds_toArray, List.set_cons_zero, List.set_cons_succ, getD_lit, List.getD_cons_succ, List.getD_cons_zero, Value.cells] at hE)
      | ((with_reducible (show Go.wpList _ _ _ (Go.Oper.mk _ (.load _ _) _ _ _ _ :: _) _ _)); first | (refine wpl_load1 hE 0 rfl rfl rfl rfl (by simp [go_sem]) rfl ?_) | (refine wpl_load1 hE 1 rfl rfl rfl rfl (by simp [go_sem]) rfl ?_) | (refine wpl_load1 hE 2 rfl rfl rfl rfl (by simp [go_sem]) rfl ?_) | (refine wpl_load1 hE 3 rfl rfl rfl rfl (by simp [go_sem]) rfl ?_) | (refine wpl_load1 hE 4 rfl rfl rfl rfl (by simp [go_sem]) rfl ?_) | (refine wpl_load1 hE 5 rfl rfl rfl rfl (by simp [go_sem]) rfl ?_)))
    go_ret
    exact ⟨_, rfl, by rw [R.out]; rfl, hE.tail⟩
  subst eT
  by_cases eA : acts = 0
  rotate_left
  · have R := SL.hid (may_part (x := ⟨1, name, [], [], acts, keep⟩) (.inr (.inr (.inr (.inl ⟨rfl, eA⟩)))))
    have f : ((acts : Int) != 0) = true := by simpa using eA
    clear eA
    go_enter Try.func49, Try.ntmps49
    go_wp2_with (first
      | go_skip
      | ((with_reducible (show Go.wpList _ _ _ (Go.Oper.mk _ (.box _ _) _ _ _ _ :: _) _ _)); refine wpl_box hE rfl rfl rfl ?_; clear hE; intro b2 w hE; simp only [Act.eval, Act.put, List.setIfInBounds_toArray, List.set_cons_zero, List.set_cons_succ, getD_lit, List.getD_cons_succ, List.getD_cons_zero, Value.cells] at hE)
      | ((with_reducible (show Go.wpList _ _ _ (Go.Oper.mk _ (.load _ _) _ _ _ _ :: _) _ _)); first | (refine wpl_load1 hE 0 rfl rfl rfl rfl (by simp [go_sem]) rfl ?_) | (refine wpl_load1 hE 1 rfl rfl rfl rfl (by simp [go_sem]) rfl ?_) | (refine wpl_load1 hE 2 rfl rfl rfl rfl (by simp [go_sem]) rfl ?_) | (refine wpl_load1 hE 3 rfl rfl rfl rfl (by simp [go_sem]) rfl ?_) | (refine wpl_load1 hE 4 rfl rfl rfl rfl (by simp [go_sem]) rfl ?_) | (refine wpl_load1 hE 5 rfl rfl rfl rfl (by simp [go_sem]) rfl ?_)))
    go_ret
    exact ⟨_, rfl, by rw [R.out]; rfl, hE.tail⟩
  subst eA
  by_cases eK : keep = []
  rotate_left
  · have R := SL.hid (may_part (x := ⟨1, name, [], [], 0, keep⟩) (.inr (.inr (.inr (.inr ⟨rfl, eK⟩)))))
    obtain ⟨f, f2, f3⟩ := ne_str eK
    clear eK
    go_enter Try.func49, Try.ntmps49
    go_wp2_with (first
      | go_skip
      | ((with_reducible (show Go.wpList _ _ _ (Go.Oper.mk _ (.box _ _) _ _ _ _ :: _) _ _)); refine wpl_box hE rfl rfl rfl ?_; clear hE; intro b2 w hE; simp only [Act.eval, Act.put, List.setIfInBounds_toArray, List.set_cons_zero, List.set_cons_succ, getD_lit, List.getD_cons_succ, List.getD_cons_zero, Value.cells] at hE)
      | ((with_reducible (show Go.wpList _ _ _ (Go.Oper.mk _ (.load _ _) _ _ _ _ :: _) _ _)); first | (refine wpl_load1 hE 0 rfl rfl rfl rfl (by simp [go_sem]) rfl ?_) | (refine wpl_load1 hE 1 rfl rfl rfl rfl (by simp [go_sem]) rfl ?_) | (refine wpl_load1 hE 2 rfl rfl rfl rfl (by simp [go_sem]) rfl ?_) | (refine wpl_load1 hE 3 rfl rfl rfl rfl (by simp [go_sem]) rfl ?_) | (refine wpl_load1 hE 4 rfl rfl rfl rfl (by simp [go_sem]) rfl ?_) | (refine wpl_load1 hE 5 rfl rfl rfl rfl (by simp [go_sem]) rfl ?_)))
    go_ret
    exact ⟨_, rfl, by rw [R.out]; rfl, hE.tail⟩
  subst eK
  have R := SL.hid (may_yes (x := ⟨1, name, [], [], 0, []⟩) (show (1 : UInt8).toNat ≤ 10 by decide) s1 s2 s3 s4 (.inl rfl) (.inr rfl) (.inr rfl) (.inr rfl) (.inr rfl))
  go_enter Try.func49, Try.ntmps49
  go_wp2_with (first
    | go_skip
    | ((with_reducible (show Go.wpList _ _ _ (Go.Oper.mk _ (.box _ _) _ _ _ _ :: _) _ _)); refine wpl_box hE rfl rfl rfl ?_; clear hE; intro b2 w hE; simp only [Act.eval, Act.put, List.setIfInBounds_toArray, List.set_cons_zero, List.set_cons_succ, getD_lit, List.getD_cons_succ, List.getD_cons_zero, Value.cells] at hE)
    | ((with_reducible (show Go.wpList _ _ _ (Go.Oper.mk _ (.load _ _) _ _ _ _ :: _) _ _)); first | (refine wpl_load1 hE 0 rfl rfl rfl rfl (by simp [go_sem]) rfl ?_) | (refine wpl_load1 hE 1 rfl rfl rfl rfl (by simp [go_sem]) rfl ?_) | (refine wpl_load1 hE 2 rfl rfl rfl rfl (by simp [go_sem]) rfl ?_) | (refine wpl_load1 hE 3 rfl rfl rfl rfl (by simp [go_sem]) rfl ?_) | (refine wpl_load1 hE 4 rfl rfl rfl rfl (by simp [go_sem]) rfl ?_) | (refine wpl_load1 hE 5 rfl rfl rfl rfl (by simp [go_sem]) rfl ?_)))
  go_loopw [4] (fun i wr => i = .int .i64 0 ∧ Ent (pt b2 (.cells #[.int .u8 1, .string ⟨name.toArray⟩, .string ⟨#[]⟩, .slice ao 0 c, .int .u16 0, .string ⟨#[]⟩] 84) :: l) wr) (fun _ _ => 0)
  case atStart => exact ⟨rfl, hE⟩
  case round =>
    clear hE
    obtain ⟨rfl, hE⟩ := hrel
    go_wp2_with (first
      | go_skip
      | ((with_reducible (show Go.wpList _ _ _ (Go.Oper.mk _ (.load _ _) _ _ _ _ :: _) _ _)); first | (refine wpl_load1 hE 0 rfl rfl rfl rfl (by simp [go_sem]) rfl ?_) | (refine wpl_load1 hE 1 rfl rfl rfl rfl (by simp [go_sem]) rfl ?_) | (refine wpl_load1 hE 2 rfl rfl rfl rfl (by simp [go_sem]) rfl ?_) | (refine wpl_load1 hE 3 rfl rfl rfl rfl (by simp [go_sem]) rfl ?_) | (refine wpl_load1 hE 4 rfl rfl rfl rfl (by simp [go_sem]) rfl ?_) | (refine wpl_load1 hE 5 rfl rfl rfl rfl (by simp [go_sem]) rfl ?_)))
    go_ret
    exact ⟨_, rfl, by rw [R.out]; rfl, hE.tail⟩

set_option maxRecDepth 100000 in
set_option maxHeartbeats 2000000 in
theorem may27_2 {name path keep : List UInt8} {tree : List TE} {acts : Nat} {ao : Option Addr} {c : Nat} (s1 : name.length ≤ 255) (s2 : path.length ≤ 255) (s3 : keep.length ≤ 255) (s4 : tree.length ≤ 255) {l : List HProp} {w : World} (hE : Ent l w)
    (hk : Knows l (reads (.slice ao tree.length c) tree.length (treeCells tree))) :
    Calls Try.prog 49 #[.agg #[.int .u8 2, .string ⟨name.toArray⟩, .string ⟨path.toArray⟩, .slice ao tree.length c, .int .u16 acts, .string ⟨keep.toArray⟩]] w (Ret fun v w' => v = .bool (mayE ⟨2, name, path, tree, acts, keep⟩) ∧ Ent l w') := by
  have z1 : decide ((255 : Int) < (name.length : Int)) = false := decide_eq_false (by omega)
  have z2 : decide ((255 : Int) < (path.length : Int)) = false := decide_eq_false (by omega)
  have z3 : decide ((255 : Int) < (keep.length : Int)) = false := decide_eq_false (by omega)
  have z4 : decide ((255 : Int) < (tree.length : Int)) = false := decide_eq_false (by omega)
  by_cases eT : tree = []
  rotate_left
  · have R := SL.hid (may_part (x := ⟨2, name, path, tree, acts, keep⟩) (.inr (.inr (.inl ⟨rfl, eT⟩))))
    have f : 0 < tree.length := List.length_pos_iff.2 eT
    clear eT
    go_enter Try.func49, Try.ntmps49
    go_wp2_with (first
      | go_skip
      | ((with_reducible (show Go.wpList _ _ _ (Go.Oper.mk _ (.box _ _) _ _ _ _ :: _) _ _)); refine wpl_box hE rfl rfl rfl ?_; clear hE; intro b2 w hE; simp only [Act.eval, Act.put, List.setIfInBounds_toArray, List.set_cons_zero, List.set_cons_succ, getD_lit, List.getD_cons_succ, List.getD_cons_zero, Value.cells] at hE)
      | ((with_reducible (show Go.wpList _ _ _ (Go.Oper.mk _ (.load _ _) _ _ _ _ :: _) _ _)); first | (refine wpl_load1 hE 0 rfl rfl rfl rfl (by simp [go_sem]) rfl ?_) | (refine wpl_load1 hE 1 rfl rfl rfl rfl (by simp [go_sem]) rfl ?_) | (refine wpl_load1 hE 2 rfl rfl rfl rfl (by simp [go_sem]) rfl ?_) | (refine wpl_load1 hE 3 rfl rfl rfl rfl (by simp [go_sem]) rfl ?_) | (refine wpl_load1 hE 4 rfl rfl rfl rfl (by simp [go_sem]) rfl ?_) | (refine wpl_load1 hE 5 rfl rfl rfl rfl (by simp [go_sem]) rfl ?_)))
    go_ret
    exact ⟨_, rfl, by rw [R.out]; rfl, hE.tail⟩
  subst eT
  by_cases eA : acts = 0
  rotate_left
  · have R := SL.hid (may_part (x := ⟨2, name, path, [], acts, keep⟩) (.inr (.inr (.inr (.inl ⟨rfl, eA⟩)))))
    have f : ((acts : Int) != 0) = true := by simpa using eA
    clear eA
    go_enter Try.func49, Try.ntmps49
    go_wp2_with (first
      | go_skip
      | ((with_reducible (show Go.wpList _ _ _ (Go.Oper.mk _ (.box _ _) _ _ _ _ :: _) _ _)); refine wpl_box hE rfl rfl rfl ?_; clear hE; intro b2 w hE; simp only [Act.eval, Act.put, List.setIfInBounds_toArray, List.set_cons_zero, List.set_cons_succ, getD_lit, List.getD_cons_succ, List.getD_cons_zero, Value.cells] at hE)
      | ((with_reducible (show Go.wpList _ _ _ (Go.Oper.mk _ (.load _ _) _ _ _ _ :: _) _ _)); first | (refine wpl_load1 hE 0 rfl rfl rfl rfl (by simp [go_sem]) rfl ?_) | (refine wpl_load1 hE 1 rfl rfl rfl rfl (by simp [go_sem]) rfl ?_) | (refine wpl_load1 hE 2 rfl rfl rfl rfl (by simp [go_sem]) rfl ?_) | (refine wpl_load1 hE 3 rfl rfl rfl rfl (by simp [go_sem]) rfl ?_) | (refine wpl_load1 hE 4 rfl rfl rfl rfl (by simp [go_sem]) rfl ?_) | (refine wpl_load1 hE 5 rfl rfl rfl rfl (by simp [go_sem]) rfl ?_)))
    go_ret
    exact ⟨_, rfl, by rw [R.out]; rfl, hE.tail⟩
  subst eA
  by_cases eK : keep = []
  rotate_left
  · have R := SL.hid (may_part (x := ⟨2, name, path, [], 0, keep⟩) (.inr (.inr (.inr (.inr ⟨rfl, eK⟩)))))
    obtain ⟨f, f2, f3⟩ := ne_str eK
    clear eK
    go_enter Try.func49, Try.ntmps49
    go_wp2_with (first
      | go_skip
      | ((with_reducible (show Go.wpList _ _ _ (Go.Oper.mk _ (.box _ _) _ _ _ _ :: _) _ _)); refine wpl_box hE rfl rfl rfl ?_; clear hE; intro b2 w hE; simp only [Act.eval, Act.put, List.setIfInBounds_toArray, List.set_cons_zero, List.set_cons_succ, getD_lit, List.getD_cons_succ, List.getD_cons_zero, Value.cells] at hE)
      | ((with_reducible (show Go.wpList _ _ _ (Go.Oper.mk _ (.load _ _) _ _ _ _ :: _) _ _)); first | (refine wpl_load1 hE 0 rfl rfl rfl rfl (by simp [go_sem]) rfl ?_) | (refine wpl_load1 hE 1 rfl rfl rfl rfl (by simp [go_sem]) rfl ?_) | (refine wpl_load1 hE 2 rfl rfl rfl rfl (by simp [go_sem]) rfl ?_) | (refine wpl_load1 hE 3 rfl rfl rfl rfl (by simp [go_sem]) rfl ?_) | (refine wpl_load1 hE 4 rfl rfl rfl rfl (by simp [go_sem]) rfl ?_) | (refine wpl_load1 hE 5 rfl rfl rfl rfl (by simp [go_sem]) rfl ?_)))
    go_ret
    exact ⟨_, rfl, by rw [R.out]; rfl, hE.tail⟩
  subst eK
  have R := SL.hid (may_yes (x := ⟨2, name, path, [], 0, []⟩) (show (2 : UInt8).toNat ≤ 10 by decide) s1 s2 s3 s4 (.inl rfl) (.inl rfl) (.inr rfl) (.inr rfl) (.inr rfl))
  go_enter Try.func49, Try.ntmps49
  go_wp2_with (first
    | go_skip
    | ((with_reducible (show Go.wpList _ _ _ (Go.Oper.mk _ (.box _ _) _ _ _ _ :: _) _ _)); refine wpl_box hE rfl rfl rfl ?_; clear hE; intro b2 w hE; simp only [Act.eval, Act.put, List.setIfInBounds_toArray, List.set_cons_zero, List.set_cons_succ, getD_lit, List.getD_cons_succ, List.getD_cons_zero, Value.cells] at hE)
    | ((with_reducible (show Go.wpList _ _ _ (Go.Oper.mk _ (.load _ _) _ _ _ _ :: _) _ _)); first | (refine wpl_load1 hE 0 rfl rfl rfl rfl (by simp [go_sem]) rfl ?_) | (refine wpl_load1 hE 1 rfl rfl rfl rfl (by simp [go_sem]) rfl ?_) | (refine wpl_load1 hE 2 rfl rfl rfl rfl (by simp [go_sem]) rfl ?_) | (refine wpl_load1 hE 3 rfl rfl rfl rfl (by simp [go_sem]) rfl ?_) | (refine wpl_load1 hE 4 rfl rfl rfl rfl (by simp [go_sem]) rfl ?_) | (refine wpl_load1 hE 5 rfl rfl rfl rfl (by simp [go_sem]) rfl ?_)))
  go_loopw [4] (fun i wr => i = .int .i64 0 ∧ Ent (pt b2 (.cells #[.int .u8 2, .string ⟨name.toArray⟩, .string ⟨path.toArray⟩, .slice ao 0 c, .int .u16 0, .string ⟨#[]⟩] 84) :: l) wr) (fun _ _ => 0)
  case atStart => exact ⟨rfl, hE⟩
  case round =>
    clear hE
    obtain ⟨rfl, hE⟩ := hrel
    go_wp2_with (first
      | go_skip
      | ((with_reducible (show Go.wpList _ _ _ (Go.Oper.mk _ (.load _ _) _ _ _ _ :: _) _ _)); first | (refine wpl_load1 hE 0 rfl rfl rfl rfl (by simp [go_sem]) rfl ?_) | (refine wpl_load1 hE 1 rfl rfl rfl rfl (by simp [go_sem]) rfl ?_) | (refine wpl_load1 hE 2 rfl rfl rfl rfl (by simp [go_sem]) rfl ?_) | (refine wpl_load1 hE 3 rfl rfl rfl rfl (by simp [go_sem]) rfl ?_) | (refine wpl_load1 hE 4 rfl rfl rfl rfl (by simp [go_sem]) rfl ?_) | (refine wpl_load1 hE 5 rfl rfl rfl rfl (by simp [go_sem]) rfl ?_)))
    go_ret
    exact ⟨_, rfl, by rw [R.out]; rfl, hE.tail⟩

set_option maxRecDepth 100000 in
set_option maxHeartbeats 2000000 in
theorem may27_3 {name path keep : List UInt8} {tree : List TE} {acts : Nat} {ao : Option Addr} {c : Nat} (s1 : name.length ≤ 255) (s2 : path.length ≤ 255) (s3 : keep.length ≤ 255) (s4 : tree.length ≤ 255) {l : List HProp} {w : World} (hE : Ent l w)
    (hk : Knows l (reads (.slice ao tree.length c) tree.length (treeCells tree))) :
    Calls Try.prog 49 #[.agg #[.int .u8 3, .string ⟨name.toArray⟩, .string ⟨path.toArray⟩, .slice ao tree.length c, .int .u16 acts, .string ⟨keep.toArray⟩]] w (Ret fun v w' => v = .bool (mayE ⟨3, name, path, tree, acts, keep⟩) ∧ Ent l w') := by
  have z1 : decide ((255 : Int) < (name.length : Int)) = false := decide_eq_false (by omega)
  have z2 : decide ((255 : Int) < (path.length : Int)) = false := decide_eq_false (by omega)
  have z3 : decide ((255 : Int) < (keep.length : Int)) = false := decide_eq_false (by omega)
  have z4 : decide ((255 : Int) < (tree.length : Int)) = false := decide_eq_false (by omega)
  by_cases eT : tree = []
  rotate_left
  · have R := SL.hid (may_part (x := ⟨3, name, path, tree, acts, keep⟩) (.inr (.inr (.inl ⟨rfl, eT⟩))))
    have f : 0 < tree.length := List.length_pos_iff.2 eT
    clear eT
    go_enter Try.func49, Try.ntmps49
    go_wp2_with (first
      | go_skip
      | ((with_reducible (show Go.wpList _ _ _ (Go.Oper.mk _ (.box _ _) _ _ _ _ :: _) _ _)); refine wpl_box hE rfl rfl rfl ?_; clear hE; intro b2 w hE; simp only [Act.eval, Act.put, List.setIfInBounds_toArray, List.set_cons_zero, List.set_cons_succ, getD_lit, List.getD_cons_succ, List.getD_cons_zero, Value.cells] at hE)
      | ((with_reducible (show Go.wpList _ _ _ (Go.Oper.mk _ (.load _ _) _ _ _ _ :: _) _ _)); first | (refine wpl_load1 hE 0 rfl rfl rfl rfl (by simp [go_sem]) rfl ?_) | (refine wpl_load1 hE 1 rfl rfl rfl rfl (by simp [go_sem]) rfl ?_) | (refine wpl_load1 hE 2 rfl rfl rfl rfl (by simp [go_sem]) rfl ?_) | (refine wpl_load1 hE 3 rfl rfl rfl rfl (by simp [go_sem]) rfl ?_) | (refine wpl_load1 hE 4 rfl rfl rfl rfl (by simp [go_sem]) rfl ?_) | (refine wpl_load1 hE 5 rfl rfl rfl rfl (by simp [go_sem]) rfl ?_)))
    go_ret
    exact ⟨_, rfl, by rw [R.out]; rfl, hE.tail⟩
  subst eT
  by_cases eA : acts = 0
  rotate_left
  · have R := SL.hid (may_part (x := ⟨3, name, path, [], acts, keep⟩) (.inr (.inr (.inr (.inl ⟨rfl, eA⟩)))))
    have f : ((acts : Int) != 0) = true := by simpa using eA
    clear eA
    go_enter Try.func49, Try.ntmps49
    go_wp2_with (first
      | go_skip
      | ((with_reducible (show Go.wpList _ _ _ (Go.Oper.mk _ (.box _ _) _ _ _ _ :: _) _ _)); refine wpl_box hE rfl rfl rfl ?_; clear hE; intro b2 w hE; simp only [Act.eval, Act.put, List.setIfInBounds_toArray, List.set_cons_zero, List.set_cons_succ, getD_lit, List.getD_cons_succ, List.getD_cons_zero, Value.cells] at hE)
      | ((with_reducible (show Go.wpList _ _ _ (Go.Oper.mk _ (.load _ _) _ _ _ _ :: _) _ _)); first | (refine wpl_load1 hE 0 rfl rfl rfl rfl (by simp [go_sem]) rfl ?_) | (refine wpl_load1 hE 1 rfl rfl rfl rfl (by simp [go_sem]) rfl ?_) | (refine wpl_load1 hE 2 rfl rfl rfl rfl (by simp [go_sem]) rfl ?_) | (refine wpl_load1 hE 3 rfl rfl rfl rfl (by simp [go_sem]) rfl ?_) | (refine wpl_load1 hE 4 rfl rfl rfl rfl (by simp [go_sem]) rfl ?_) | (refine wpl_load1 hE 5 rfl rfl rfl rfl (by simp [go_sem]) rfl ?_)))
    go_ret
    exact ⟨_, rfl, by rw [R.out]; rfl, hE.tail⟩
  subst eA
  by_cases eK : keep = []
  rotate_left
  · have R := SL.hid (may_part (x := ⟨3, name, path, [], 0, keep⟩) (.inr (.inr (.inr (.inr ⟨rfl, eK⟩)))))
    obtain ⟨f, f2, f3⟩ := ne_str eK
    clear eK
    go_enter Try.func49, Try.ntmps49
    go_wp2_with (first
      | go_skip
      | ((with_reducible (show Go.wpList _ _ _ (Go.Oper.mk _ (.box _ _) _ _ _ _ :: _) _ _)); refine wpl_box hE rfl rfl rfl ?_; clear hE; intro b2 w hE; simp only [Act.eval, Act.put, List.setIfInBounds_toArray, List.set_cons_zero, List.set_cons_succ, getD_lit, List.getD_cons_succ, List.getD_cons_zero, Value.cells] at hE)
      | ((with_reducible (show Go.wpList _ _ _ (Go.Oper.mk _ (.load _ _) _ _ _ _ :: _) _ _)); first | (refine wpl_load1 hE 0 rfl rfl rfl rfl (by simp [go_sem]) rfl ?_) | (refine wpl_load1 hE 1 rfl rfl rfl rfl (by simp [go_sem]) rfl ?_) | (refine wpl_load1 hE 2 rfl rfl rfl rfl (by simp [go_sem]) rfl ?_) | (refine wpl_load1 hE 3 rfl rfl rfl rfl (by simp [go_sem]) rfl ?_) | (refine wpl_load1 hE 4 rfl rfl rfl rfl (by simp [go_sem]) rfl ?_) | (refine wpl_load1 hE 5 rfl rfl rfl rfl (by simp [go_sem]) rfl ?_)))
    go_ret
    exact ⟨_, rfl, by rw [R.out]; rfl, hE.tail⟩
  subst eK
  have R := SL.hid (may_yes (x := ⟨3, name, path, [], 0, []⟩) (show (3 : UInt8).toNat ≤ 10 by decide) s1 s2 s3 s4 (.inl rfl) (.inl rfl) (.inr rfl) (.inr rfl) (.inr rfl))
  go_enter Try.func49, Try.ntmps49
  go_wp2_with (first
    | go_skip
    | ((with_reducible (show Go.wpList _ _ _ (Go.Oper.mk _ (.box _ _) _ _ _ _ :: _) _ _)); refine wpl_box hE rfl rfl rfl ?_; clear hE; intro b2 w hE; simp only [Act.eval, Act.put, List.setIfInBounds_toArray, List.set_cons_zero, List.set_cons_succ, getD_lit, List.getD_cons_succ, List.getD_cons_zero, Value.cells] at hE)
    | ((with_reducible (show Go.wpList _ _ _ (Go.Oper.mk _ (.load _ _) _ _ _ _ :: _) _ _)); first | (refine wpl_load1 hE 0 rfl rfl rfl rfl (by simp [go_sem]) rfl ?_) | (refine wpl_load1 hE 1 rfl rfl rfl rfl (by simp [go_sem]) rfl ?_) | (refine wpl_load1 hE 2 rfl rfl rfl rfl (by simp [go_sem]) rfl ?_) | (refine wpl_load1 hE 3 rfl rfl rfl rfl (by simp [go_sem]) rfl ?_) | (refine wpl_load1 hE 4 rfl rfl rfl rfl (by simp [go_sem]) rfl ?_) | (refine wpl_load1 hE 5 rfl rfl rfl rfl (by simp [go_sem]) rfl ?_)))
  go_loopw [4] (fun i wr => i = .int .i64 0 ∧ Ent (pt b2 (.cells #[.int .u8 3, .string ⟨name.toArray⟩, .string ⟨path.toArray⟩, .slice ao 0 c, .int .u16 0, .string ⟨#[]⟩] 84) :: l) wr) (fun _ _ => 0)
  case atStart => exact ⟨rfl, hE⟩
  case round =>
    clear hE
    obtain ⟨rfl, hE⟩ := hrel
    go_wp2_with (first
      | go_skip
      | ((with_reducible (show Go.wpList _ _ _ (Go.Oper.mk _ (.load _ _) _ _ _ _ :: _) _ _)); first | (refine wpl_load1 hE 0 rfl rfl rfl rfl (by simp [go_sem]) rfl ?_) | (refine wpl_load1 hE 1 rfl rfl rfl rfl (by simp [go_sem]) rfl ?_) | (refine wpl_load1 hE 2 rfl rfl rfl rfl (by simp [go_sem]) rfl ?_) | (refine wpl_load1 hE 3 rfl rfl rfl rfl (by simp [go_sem]) rfl ?_) | (refine wpl_load1 hE 4 rfl rfl rfl rfl (by simp [go_sem]) rfl ?_) | (refine wpl_load1 hE 5 rfl rfl rfl rfl (by simp [go_sem]) rfl ?_)))
    go_ret
    exact ⟨_, rfl, by rw [R.out]; rfl, hE.tail⟩

set_option maxRecDepth 100000 in
set_option maxHeartbeats 2000000 in
theorem may27_7 {name path keep : List UInt8} {tree : List TE} {acts : Nat} {ao : Option Addr} {c : Nat} (s1 : name.length ≤ 255) (s2 : path.length ≤ 255) (s3 : keep.length ≤ 255) (s4 : tree.length ≤ 255) {l : List HProp} {w : World} (hE : Ent l w)
    (hk : Knows l (reads (.slice ao tree.length c) tree.length (treeCells tree))) :
    Calls Try.prog 49 #[.agg #[.int .u8 7, .string ⟨name.toArray⟩, .string ⟨path.toArray⟩, .slice ao tree.length c, .int .u16 acts, .string ⟨keep.toArray⟩]] w (Ret fun v w' => v = .bool (mayE ⟨7, name, path, tree, acts, keep⟩) ∧ Ent l w') := by
  have z1 : decide ((255 : Int) < (name.length : Int)) = false := decide_eq_false (by omega)
  have z2 : decide ((255 : Int) < (path.length : Int)) = false := decide_eq_false (by omega)
  have z3 : decide ((255 : Int) < (keep.length : Int)) = false := decide_eq_false (by omega)
  have z4 : decide ((255 : Int) < (tree.length : Int)) = false := decide_eq_false (by omega)
  by_cases eN : name = []
  rotate_left
  · have R := SL.hid (may_part (x := ⟨7, name, path, tree, acts, keep⟩) (.inl ⟨rfl, eN⟩))
    obtain ⟨f, f2, f3⟩ := ne_str eN
    clear eN
    go_enter Try.func49, Try.ntmps49
    go_wp2_with (first
      | go_skip
      | ((with_reducible (show Go.wpList _ _ _ (Go.Oper.mk _ (.box _ _) _ _ _ _ :: _) _ _)); refine wpl_box hE rfl rfl rfl ?_; clear hE; intro b2 w hE; simp only [Act.eval, Act.put, List.setIfInBounds_toArray, List.set_cons_zero, List.set_cons_succ, getD_lit, List.getD_cons_succ, List.getD_cons_zero, Value.cells] at hE)
      | ((with_reducible (show Go.wpList _ _ _ (Go.Oper.mk _ (.load _ _) _ _ _ _ :: _) _ _)); first | (refine wpl_load1 hE 0 rfl rfl rfl rfl (by simp [go_sem]) rfl ?_) | (refine wpl_load1 hE 1 rfl rfl rfl rfl (by simp [go_sem]) rfl ?_) | (refine wpl_load1 hE 2 rfl rfl rfl rfl (by simp [go_sem]) rfl ?_) | (refine wpl_load1 hE 3 rfl rfl rfl rfl (by simp [go_sem]) rfl ?_) | (refine wpl_load1 hE 4 rfl rfl rfl rfl (by simp [go_sem]) rfl ?_) | (refine wpl_load1 hE 5 rfl rfl rfl rfl (by simp [go_sem]) rfl ?_)))
    go_ret
    exact ⟨_, rfl, by rw [R.out]; rfl, hE.tail⟩
  subst eN
  by_cases eP : path = []
  rotate_left
  · have R := SL.hid (may_part (x := ⟨7, [], path, tree, acts, keep⟩) (.inr (.inl ⟨rfl, eP⟩)))
    obtain ⟨f, f2, f3⟩ := ne_str eP
    clear eP
    go_enter Try.func49, Try.ntmps49
    go_wp2_with (first
      | go_skip
      | ((with_reducible (show Go.wpList _ _ _ (Go.Oper.mk _ (.box _ _) _ _ _ _ :: _) _ _)); refine wpl_box hE rfl rfl rfl ?_; clear hE; intro b2 w hE; simp only [Act.eval, Act.put, List.setIfInBounds_toArray, List.set_cons_zero, List.set_cons_succ, getD_lit, List.getD_cons_succ, List.getD_cons_zero, Value.cells] at hE)
      | ((with_reducible (show Go.wpList _ _ _ (Go.Oper.mk _ (.load _ _) _ _ _ _ :: _) _ _)); first | (refine wpl_load1 hE 0 rfl rfl rfl rfl (by simp [go_sem]) rfl ?_) | (refine wpl_load1 hE 1 rfl rfl rfl rfl (by simp [go_sem]) rfl ?_) | (refine wpl_load1 hE 2 rfl rfl rfl rfl (by simp [go_sem]) rfl ?_) | (refine wpl_load1 hE 3 rfl rfl rfl rfl (by simp [go_sem]) rfl ?_) | (refine wpl_load1 hE 4 rfl rfl rfl rfl (by simp [go_sem]) rfl ?_) | (refine wpl_load1 hE 5 rfl rfl rfl rfl (by simp [go_sem]) rfl ?_)))
    go_ret
    exact ⟨_, rfl, by rw [R.out]; rfl, hE.tail⟩
  subst eP
  by_cases eT : tree = []
  rotate_left
  · have R := SL.hid (may_part (x := ⟨7, [], [], tree, acts, keep⟩) (.inr (.inr (.inl ⟨rfl, eT⟩))))
    have f : 0 < tree.length := List.length_pos_iff.2 eT
    clear eT
    go_enter Try.func49, Try.ntmps49
    go_wp2_with (first
      | go_skip
      | ((with_reducible (show Go.wpList _ _ _ (Go.Oper.mk _ (.box _ _) _ _ _ _ :: _) _ _)); refine wpl_box hE rfl rfl rfl ?_; clear hE; intro b2 w hE; simp only [Act.eval, Act.put, List.setIfInBounds_toArray, List.set_cons_zero, List.set_cons_succ, getD_lit, List.getD_cons_succ, List.getD_cons_zero, Value.cells] at hE)
      | ((with_reducible (show Go.wpList _ _ _ (Go.Oper.mk _ (.load _ _) _ _ _ _ :: _) _ _)); first | (refine wpl_load1 hE 0 rfl rfl rfl rfl (by simp [go_sem]) rfl ?_) | (refine wpl_load1 hE 1 rfl rfl rfl rfl (by simp [go_sem]) rfl ?_) | (refine wpl_load1 hE 2 rfl rfl rfl rfl (by simp [go_sem]) rfl ?_) | (refine wpl_load1 hE 3 rfl rfl rfl rfl (by simp [go_sem]) rfl ?_) | (refine wpl_load1 hE 4 rfl rfl rfl rfl (by simp [go_sem]) rfl ?_) | (refine wpl_load1 hE 5 rfl rfl rfl rfl (by simp [go_sem]) rfl ?_)))
    go_ret
    exact ⟨_, rfl, by rw [R.out]; rfl, hE.tail⟩
  subst eT
  have R := SL.hid (may_yes (x := ⟨7, [], [], [], acts, keep⟩) (show (7 : UInt8).toNat ≤ 10 by decide) s1 s2 s3 s4 (.inr rfl) (.inr rfl) (.inr rfl) (.inl rfl) (.inl rfl))
  go_enter Try.func49, Try.ntmps49
  go_wp2_with (first
    | go_skip
    | ((with_reducible (show Go.wpList _ _ _ (Go.Oper.mk _ (.box _ _) _ _ _ _ :: _) _ _)); refine wpl_box hE rfl rfl rfl ?_; clear hE; intro b2 w hE; simp only [Act.eval, Act.put, List.setIfInBounds_toArray, List.set_cons_zero, List.set_cons_succ, getD_lit, List.getD_cons_succ, List.getD_cons_zero, Value.cells] at hE)
    | ((with_reducible (show Go.wpList _ _ _ (Go.Oper.mk _ (.load _ _) _ _ _ _ :: _) _ _)); first | (refine wpl_load1 hE 0 rfl rfl rfl rfl (by simp [go_sem]) rfl ?_) | (refine wpl_load1 hE 1 rfl rfl rfl rfl (by simp [go_sem]) rfl ?_) | (refine wpl_load1 hE 2 rfl rfl rfl rfl (by simp [go_sem]) rfl ?_) | (refine wpl_load1 hE 3 rfl rfl rfl rfl (by simp [go_sem]) rfl ?_) | (refine wpl_load1 hE 4 rfl rfl rfl rfl (by simp [go_sem]) rfl ?_) | (refine wpl_load1 hE 5 rfl rfl rfl rfl (by simp [go_sem]) rfl ?_)))
  go_loopw [4] (fun i wr => i = .int .i64 0 ∧ Ent (pt b2 (.cells #[.int .u8 7, .string ⟨#[]⟩, .string ⟨#[]⟩, .slice ao 0 c, .int .u16 acts, .string ⟨keep.toArray⟩] 84) :: l) wr) (fun _ _ => 0)
  case atStart => exact ⟨rfl, hE⟩
  case round =>
    clear hE
    obtain ⟨rfl, hE⟩ := hrel
    go_wp2_with (first
      | go_skip
      | ((with_reducible (show Go.wpList _ _ _ (Go.Oper.mk _ (.load _ _) _ _ _ _ :: _) _ _)); first | (refine wpl_load1 hE 0 rfl rfl rfl rfl (by simp [go_sem]) rfl ?_) | (refine wpl_load1 hE 1 rfl rfl rfl rfl (by simp [go_sem]) rfl ?_) | (refine wpl_load1 hE 2 rfl rfl rfl rfl (by simp [go_sem]) rfl ?_) | (refine wpl_load1 hE 3 rfl rfl rfl rfl (by simp [go_sem]) rfl ?_) | (refine wpl_load1 hE 4 rfl rfl rfl rfl (by simp [go_sem]) rfl ?_) | (refine wpl_load1 hE 5 rfl rfl rfl rfl (by simp [go_sem]) rfl ?_)))
    go_ret
    exact ⟨_, rfl, by rw [R.out]; rfl, hE.tail⟩

set_option maxRecDepth 100000 in
set_option maxHeartbeats 2000000 in
theorem may27_8 {name path keep : List UInt8} {tree : List TE} {acts : Nat} {ao : Option Addr} {c : Nat} (s1 : name.length ≤ 255) (s2 : path.length ≤ 255) (s3 : keep.length ≤ 255) (s4 : tree.length ≤ 255) {l : List HProp} {w : World} (hE : Ent l w)
    (hk : Knows l (reads (.slice ao tree.length c) tree.length (treeCells tree))) :
    Calls Try.prog 49 #[.agg #[.int .u8 8, .string ⟨name.toArray⟩, .string ⟨path.toArray⟩, .slice ao tree.length c, .int .u16 acts, .string ⟨keep.toArray⟩]] w (Ret fun v w' => v = .bool (mayE ⟨8, name, path, tree, acts, keep⟩) ∧ Ent l w') := by
  have z1 : decide ((255 : Int) < (name.length : Int)) = false := decide_eq_false (by omega)
  have z2 : decide ((255 : Int) < (path.length : Int)) = false := decide_eq_false (by omega)
  have z3 : decide ((255 : Int) < (keep.length : Int)) = false := decide_eq_false (by omega)
  have z4 : decide ((255 : Int) < (tree.length : Int)) = false := decide_eq_false (by omega)
  by_cases eN : name = []
  rotate_left
  · have R := SL.hid (may_part (x := ⟨8, name, path, tree, acts, keep⟩) (.inl ⟨rfl, eN⟩))
    obtain ⟨f, f2, f3⟩ := ne_str eN
    clear eN
    go_enter Try.func49, Try.ntmps49
    go_wp2_with (first
      | go_skip
      | ((with_reducible (show Go.wpList _ _ _ (Go.Oper.mk _ (.box _ _) _ _ _ _ :: _) _ _)); refine wpl_box hE rfl rfl rfl ?_; clear hE; intro b2 w hE; simp only [Act.eval, Act.put, List.setIfInBounds_toArray, List.set_cons_zero, List.set_cons_succ, getD_lit, List.getD_cons_succ, List.getD_cons_zero, Value.cells] at hE)
      | ((with_reducible (show Go.wpList _ _ _ (Go.Oper.mk _ (.load _ _) _ _ _ _ :: _) _ _)); first | (refine wpl_load1 hE 0 rfl rfl rfl rfl (by simp [go_sem]) rfl ?_) | (refine wpl_load1 hE 1 rfl rfl rfl rfl (by simp [go_sem]) rfl ?_) | (refine wpl_load1 hE 2 rfl rfl rfl rfl (by simp [go_sem]) rfl ?_) | (refine wpl_load1 hE 3 rfl rfl rfl rfl (by simp [go_sem]) rfl ?_) | (refine wpl_load1 hE 4 rfl rfl rfl rfl (by simp [go_sem]) rfl ?_) | (refine wpl_load1 hE 5 rfl rfl rfl rfl (by simp [go_sem]) rfl ?_)))
    go_ret
    exact ⟨_, rfl, by rw [R.out]; rfl, hE.tail⟩
  subst eN
  by_cases eP : path = []
  rotate_left
  · have R := SL.hid (may_part (x := ⟨8, [], path, tree, acts, keep⟩) (.inr (.inl ⟨rfl, eP⟩)))
    obtain ⟨f, f2, f3⟩ := ne_str eP
    clear eP
    go_enter Try.func49, Try.ntmps49
    go_wp2_with (first
      | go_skip
      | ((with_reducible (show Go.wpList _ _ _ (Go.Oper.mk _ (.box _ _) _ _ _ _ :: _) _ _)); refine wpl_box hE rfl rfl rfl ?_; clear hE; intro b2 w hE; simp only [Act.eval, Act.put, List.setIfInBounds_toArray, List.set_cons_zero, List.set_cons_succ, getD_lit, List.getD_cons_succ, List.getD_cons_zero, Value.cells] at hE)
      | ((with_reducible (show Go.wpList _ _ _ (Go.Oper.mk _ (.load _ _) _ _ _ _ :: _) _ _)); first | (refine wpl_load1 hE 0 rfl rfl rfl rfl (by simp [go_sem]) rfl ?_) | (refine wpl_load1 hE 1 rfl rfl rfl rfl (by simp [go_sem]) rfl ?_) | (refine wpl_load1 hE 2 rfl rfl rfl rfl (by simp [go_sem]) rfl ?_) | (refine wpl_load1 hE 3 rfl rfl rfl rfl (by simp [go_sem]) rfl ?_) | (refine wpl_load1 hE 4 rfl rfl rfl rfl (by simp [go_sem]) rfl ?_) | (refine wpl_load1 hE 5 rfl rfl rfl rfl (by simp [go_sem]) rfl ?_)))
    go_ret
    exact ⟨_, rfl, by rw [R.out]; rfl, hE.tail⟩
  subst eP
  by_cases eT : tree = []
  rotate_left
  · have R := SL.hid (may_part (x := ⟨8, [], [], tree, acts, keep⟩) (.inr (.inr (.inl ⟨rfl, eT⟩))))
    have f : 0 < tree.length := List.length_pos_iff.2 eT
    clear eT
    go_enter Try.func49, Try.ntmps49
    go_wp2_with (first
      | go_skip
      | ((with_reducible (show Go.wpList _ _ _ (Go.Oper.mk _ (.box _ _) _ _ _ _ :: _) _ _)); refine wpl_box hE rfl rfl rfl ?_; clear hE; intro b2 w hE; simp only [Act.eval, Act.put, List.setIfInBounds_toArray, List.set_cons_zero, List.set_cons_succ, getD_lit, List.getD_cons_succ, List.getD_cons_zero, Value.cells] at hE)
      | ((with_reducible (show Go.wpList _ _ _ (Go.Oper.mk _ (.load _ _) _ _ _ _ :: _) _ _)); first | (refine wpl_load1 hE 0 rfl rfl rfl rfl (by simp [go_sem]) rfl ?_) | (refine wpl_load1 hE 1 rfl rfl rfl rfl (by simp [go_sem]) rfl ?_) | (refine wpl_load1 hE 2 rfl rfl rfl rfl (by simp [go_sem]) rfl ?_) | (refine wpl_load1 hE 3 rfl rfl rfl rfl (by simp [go_sem]) rfl ?_) | (refine wpl_load1 hE 4 rfl rfl rfl rfl (by simp [go_sem]) rfl ?_) | (refine wpl_load1 hE 5 rfl rfl rfl rfl (by simp [go_sem]) rfl ?_)))
    go_ret
    exact ⟨_, rfl, by rw [R.out]; rfl, hE.tail⟩
  subst eT
  by_cases eA : acts = 0
  rotate_left
  · have R := SL.hid (may_part (x := ⟨8, [], [], [], acts, keep⟩) (.inr (.inr (.inr (.inl ⟨rfl, eA⟩)))))
    have f : ((acts : Int) != 0) = true := by simpa using eA
    clear eA
    go_enter Try.func49, Try.ntmps49
    go_wp2_with (first
      | go_skip
      | ((with_reducible (show Go.wpList _ _ _ (Go.Oper.mk _ (.box _ _) _ _ _ _ :: _) _ _)); refine wpl_box hE rfl rfl rfl ?_; clear hE; intro b2 w hE; simp only [Act.eval, Act.put, List.setIfInBounds_toArray, List.set_cons_zero, List.set_cons_succ, getD_lit, List.getD_cons_succ, List.getD_cons_zero, Value.cells] at hE)
      | ((with_reducible (show Go.wpList _ _ _ (Go.Oper.mk _ (.load _ _) _ _ _ _ :: _) _ _)); first | (refine wpl_load1 hE 0 rfl rfl rfl rfl (by simp [go_sem]) rfl ?_) | (refine wpl_load1 hE 1 rfl rfl rfl rfl (by simp [go_sem]) rfl ?_) | (refine wpl_load1 hE 2 rfl rfl rfl rfl (by simp [go_sem]) rfl ?_) | (refine wpl_load1 hE 3 rfl rfl rfl rfl (by simp [go_sem]) rfl ?_) | (refine wpl_load1 hE 4 rfl rfl rfl rfl (by simp [go_sem]) rfl ?_) | (refine wpl_load1 hE 5 rfl rfl rfl rfl (by simp [go_sem]) rfl ?_)))
    go_ret
    exact ⟨_, rfl, by rw [R.out]; rfl, hE.tail⟩
  subst eA
  have R := SL.hid (may_yes (x := ⟨8, [], [], [], 0, keep⟩) (show (8 : UInt8).toNat ≤ 10 by decide) s1 s2 s3 s4 (.inr rfl) (.inr rfl) (.inr rfl) (.inr rfl) (.inl rfl))
  go_enter Try.func49, Try.ntmps49
  go_wp2_with (first
    | go_skip
    | ((with_reducible (show Go.wpList _ _ _ (Go.Oper.mk _ (.box _ _) _ _ _ _ :: _) _ _)); refine wpl_box hE rfl rfl rfl ?_; clear hE; intro b2 w hE; simp only [Act.eval, Act.put, List.setIfInBounds_toArray, List.set_cons_zero, List.set_cons_succ, getD_lit, List.getD_cons_succ, List.getD_cons_zero, Value.cells] at hE)
    | ((with_reducible (show Go.wpList _ _ _ (Go.Oper.mk _ (.load _ _) _ _ _ _ :: _) _ _)); first | (refine wpl_load1 hE 0 rfl rfl rfl rfl (by simp [go_sem]) rfl ?_) | (refine wpl_load1 hE 1 rfl rfl rfl rfl (by simp [go_sem]) rfl ?_) | (refine wpl_load1 hE 2 rfl rfl rfl rfl (by simp [go_sem]) rfl ?_) | (refine wpl_load1 hE 3 rfl rfl rfl rfl (by simp [go_sem]) rfl ?_) | (refine wpl_load1 hE 4 rfl rfl rfl rfl (by simp [go_sem]) rfl ?_) | (refine wpl_load1 hE 5 rfl rfl rfl rfl (by simp [go_sem]) rfl ?_)))
  go_loopw [4] (fun i wr => i = .int .i64 0 ∧ Ent (pt b2 (.cells #[.int .u8 8, .string ⟨#[]⟩, .string ⟨#[]⟩, .slice ao 0 c, .int .u16 0, .string ⟨keep.toArray⟩] 84) :: l) wr) (fun _ _ => 0)
  case atStart => exact ⟨rfl, hE⟩
  case round =>
    clear hE
    obtain ⟨rfl, hE⟩ := hrel
    go_wp2_with (first
      | go_skip
      | ((with_reducible (show Go.wpList _ _ _ (Go.Oper.mk _ (.load _ _) _ _ _ _ :: _) _ _)); first | (refine wpl_load1 hE 0 rfl rfl rfl rfl (by simp [go_sem]) rfl ?_) | (refine wpl_load1 hE 1 rfl rfl rfl rfl (by simp [go_sem]) rfl ?_) | (refine wpl_load1 hE 2 rfl rfl rfl rfl (by simp [go_sem]) rfl ?_) | (refine wpl_load1 hE 3 rfl rfl rfl rfl (by simp [go_sem]) rfl ?_) | (refine wpl_load1 hE 4 rfl rfl rfl rfl (by simp [go_sem]) rfl ?_) | (refine wpl_load1 hE 5 rfl rfl rfl rfl (by simp [go_sem]) rfl ?_)))
    go_ret
    exact ⟨_, rfl, by rw [R.out]; rfl, hE.tail⟩

set_option maxRecDepth 100000 in
set_option maxHeartbeats 2000000 in
theorem may27_o {d : UInt8} (hd0 : (d.toNat : Int) ≠ 0) (hd1 : (d.toNat : Int) ≠ 1) (hd2 : (d.toNat : Int) ≠ 2) (hd3 : (d.toNat : Int) ≠ 3) (hd7 : (d.toNat : Int) ≠ 7) (hd8 : (d.toNat : Int) ≠ 8) (hd10 : d.toNat ≤ 10) (hn : hasName d = false ∧ hasPath d = false ∧ hasTree d = false ∧ hasActs d = false ∧ hasKeep d = false) {name path keep : List UInt8} {tree : List TE} {acts : Nat} {ao : Option Addr} {c : Nat} (s1 : name.length ≤ 255) (s2 : path.length ≤ 255) (s3 : keep.length ≤ 255) (s4 : tree.length ≤ 255) {l : List HProp} {w : World} (hE : Ent l w)
    (hk : Knows l (reads (.slice ao tree.length c) tree.length (treeCells tree))) :
    Calls Try.prog 49 #[.agg #[.int .u8 d.toNat, .string ⟨name.toArray⟩, .string ⟨path.toArray⟩, .slice ao tree.length c, .int .u16 acts, .string ⟨keep.toArray⟩]] w (Ret fun v w' => v = .bool (mayE ⟨d, name, path, tree, acts, keep⟩) ∧ Ent l w') := by
  have z1 : decide ((255 : Int) < (name.length : Int)) = false := decide_eq_false (by omega)
  have z2 : decide ((255 : Int) < (path.length : Int)) = false := decide_eq_false (by omega)
  have z3 : decide ((255 : Int) < (keep.length : Int)) = false := decide_eq_false (by omega)
  have z4 : decide ((255 : Int) < (tree.length : Int)) = false := decide_eq_false (by omega)
  have g3 : decide ((3 : Int) < (d.toNat : Int)) = true := decide_eq_true (by omega)
  have g10 : decide ((10 : Int) < (d.toNat : Int)) = false := decide_eq_false (by omega)
  have n0 : ((d.toNat : Int) == 0) = false := by simpa using hd0
  have n2 : ((d.toNat : Int) == 2) = false := by simpa using hd2
  have n3 : ((d.toNat : Int) == 3) = false := by simpa using hd3
  have n7 : ((d.toNat : Int) == 7) = false := by simpa using hd7
  have n8 : ((d.toNat : Int) == 8) = false := by simpa using hd8
  have m0 : ((d.toNat : Int) != 0) = true := by simpa using hd0
  have m2 : ((d.toNat : Int) != 2) = true := by simpa using hd2
  have m3 : ((d.toNat : Int) != 3) = true := by simpa using hd3
  have m7 : ((d.toNat : Int) != 7) = true := by simpa using hd7
  have m8 : ((d.toNat : Int) != 8) = true := by simpa using hd8
  clear hd0 hd1 hd2 hd3 hd7 hd8
  have Hn := SL.hid hn
  clear hn
  have Hd10 := SL.hid hd10
  clear hd10
  by_cases eN : name = []
  rotate_left
  · have R := SL.hid (may_part (x := ⟨d, name, path, tree, acts, keep⟩) (.inl ⟨Hn.out.1, eN⟩))
    obtain ⟨f, f2, f3⟩ := ne_str eN
    clear eN
    go_enter Try.func49, Try.ntmps49
    go_wp2_with (first
      | go_skip
      | ((with_reducible (show Go.wpList _ _ _ (Go.Oper.mk _ (.box _ _) _ _ _ _ :: _) _ _)); refine wpl_box hE rfl rfl rfl ?_; clear hE; intro b2 w hE; simp only [Act.eval, Act.put, List.setIfInBounds_toArray, List.set_cons_zero, List.set_cons_succ, getD_lit, List.getD_cons_succ, List.getD_cons_zero, Value.cells] at hE)
      | ((with_reducible (show Go.wpList _ _ _ (Go.Oper.mk _ (.load _ _) _ _ _ _ :: _) _ _)); first | (refine wpl_load1 hE 0 rfl rfl rfl rfl (by simp [go_sem]) rfl ?_) | (refine wpl_load1 hE 1 rfl rfl rfl rfl (by simp [go_sem]) rfl ?_) | (refine wpl_load1 hE 2 rfl rfl rfl rfl (by simp [go_sem]) rfl ?_) | (refine wpl_load1 hE 3 rfl rfl rfl rfl (by simp [go_sem]) rfl ?_) | (refine wpl_load1 hE 4 rfl rfl rfl rfl (by simp [go_sem]) rfl ?_) | (refine wpl_load1 hE 5 rfl rfl rfl rfl (by simp [go_sem]) rfl ?_)))
    go_ret
    exact ⟨_, rfl, by rw [R.out]; rfl, hE.tail⟩
  subst eN
  by_cases eP : path = []
  rotate_left
  · have R := SL.hid (may_part (x := ⟨d, [], path, tree, acts, keep⟩) (.inr (.inl ⟨Hn.out.2.1, eP⟩)))
    obtain ⟨f, f2, f3⟩ := ne_str eP
    clear eP
    go_enter Try.func49, Try.ntmps49
    go_wp2_with (first
      | go_skip
      | ((with_reducible (show Go.wpList _ _ _ (Go.Oper.mk _ (.box _ _) _ _ _ _ :: _) _ _)); refine wpl_box hE rfl rfl rfl ?_; clear hE; intro b2 w hE; simp only [Act.eval, Act.put, List.setIfInBounds_toArray, List.set_cons_zero, List.set_cons_succ, getD_lit, List.getD_cons_succ, List.getD_cons_zero, Value.cells] at hE)
      | ((with_reducible (show Go.wpList _ _ _ (Go.Oper.mk _ (.load _ _) _ _ _ _ :: _) _ _)); first | (refine wpl_load1 hE 0 rfl rfl rfl rfl (by simp [go_sem]) rfl ?_) | (refine wpl_load1 hE 1 rfl rfl rfl rfl (by simp [go_sem]) rfl ?_) | (refine wpl_load1 hE 2 rfl rfl rfl rfl (by simp [go_sem]) rfl ?_) | (refine wpl_load1 hE 3 rfl rfl rfl rfl (by simp [go_sem]) rfl ?_) | (refine wpl_load1 hE 4 rfl rfl rfl rfl (by simp [go_sem]) rfl ?_) | (refine wpl_load1 hE 5 rfl rfl rfl rfl (by simp [go_sem]) rfl ?_)))
    go_ret
    exact ⟨_, rfl, by rw [R.out]; rfl, hE.tail⟩
  subst eP
  by_cases eT : tree = []
  rotate_left
  · have R := SL.hid (may_part (x := ⟨d, [], [], tree, acts, keep⟩) (.inr (.inr (.inl ⟨Hn.out.2.2.1, eT⟩))))
    have f : 0 < tree.length := List.length_pos_iff.2 eT
    clear eT
    go_enter Try.func49, Try.ntmps49
    go_wp2_with (first
      | go_skip
      | ((with_reducible (show Go.wpList _ _ _ (Go.Oper.mk _ (.box _ _) _ _ _ _ :: _) _ _)); refine wpl_box hE rfl rfl rfl ?_; clear hE; intro b2 w hE; simp only [Act.eval, Act.put, List.setIfInBounds_toArray, List.set_cons_zero, List.set_cons_succ, getD_lit, List.getD_cons_succ, List.getD_cons_zero, Value.cells] at hE)
      | ((with_reducible (show Go.wpList _ _ _ (Go.Oper.mk _ (.load _ _) _ _ _ _ :: _) _ _)); first | (refine wpl_load1 hE 0 rfl rfl rfl rfl (by simp [go_sem]) rfl ?_) | (refine wpl_load1 hE 1 rfl rfl rfl rfl (by simp [go_sem]) rfl ?_) | (refine wpl_load1 hE 2 rfl rfl rfl rfl (by simp [go_sem]) rfl ?_) | (refine wpl_load1 hE 3 rfl rfl rfl rfl (by simp [go_sem]) rfl ?_) | (refine wpl_load1 hE 4 rfl rfl rfl rfl (by simp [go_sem]) rfl ?_) | (refine wpl_load1 hE 5 rfl rfl rfl rfl (by simp [go_sem]) rfl ?_)))
    go_ret
    exact ⟨_, rfl, by rw [R.out]; rfl, hE.tail⟩
  subst eT
  by_cases eA : acts = 0
  rotate_left
  · have R := SL.hid (may_part (x := ⟨d, [], [], [], acts, keep⟩) (.inr (.inr (.inr (.inl ⟨Hn.out.2.2.2.1, eA⟩)))))
    have f : ((acts : Int) != 0) = true := by simpa using eA
    clear eA
    go_enter Try.func49, Try.ntmps49
    go_wp2_with (first
      | go_skip
      | ((with_reducible (show Go.wpList _ _ _ (Go.Oper.mk _ (.box _ _) _ _ _ _ :: _) _ _)); refine wpl_box hE rfl rfl rfl ?_; clear hE; intro b2 w hE; simp only [Act.eval, Act.put, List.setIfInBounds_toArray, List.set_cons_zero, List.set_cons_succ, getD_lit, List.getD_cons_succ, List.getD_cons_zero, Value.cells] at hE)
      | ((with_reducible (show Go.wpList _ _ _ (Go.Oper.mk _ (.load _ _) _ _ _ _ :: _) _ _)); first | (refine wpl_load1 hE 0 rfl rfl rfl rfl (by simp [go_sem]) rfl ?_) | (refine wpl_load1 hE 1 rfl rfl rfl rfl (by simp [go_sem]) rfl ?_) | (refine wpl_load1 hE 2 rfl rfl rfl rfl (by simp [go_sem]) rfl ?_) | (refine wpl_load1 hE 3 rfl rfl rfl rfl (by simp [go_sem]) rfl ?_) | (refine wpl_load1 hE 4 rfl rfl rfl rfl (by simp [go_sem]) rfl ?_) | (refine wpl_load1 hE 5 rfl rfl rfl rfl (by simp [go_sem]) rfl ?_)))
    go_ret
    exact ⟨_, rfl, by rw [R.out]; rfl, hE.tail⟩
  subst eA
  by_cases eK : keep = []
  rotate_left
  · have R := SL.hid (may_part (x := ⟨d, [], [], [], 0, keep⟩) (.inr (.inr (.inr (.inr ⟨Hn.out.2.2.2.2, eK⟩)))))
    obtain ⟨f, f2, f3⟩ := ne_str eK
    clear eK
    go_enter Try.func49, Try.ntmps49
    go_wp2_with (first
      | go_skip
      | ((with_reducible (show Go.wpList _ _ _ (Go.Oper.mk _ (.box _ _) _ _ _ _ :: _) _ _)); refine wpl_box hE rfl rfl rfl ?_; clear hE; intro b2 w hE; simp only [Act.eval, Act.put, List.setIfInBounds_toArray, List.set_cons_zero, List.set_cons_succ, getD_lit, List.getD_cons_succ, List.getD_cons_zero, Value.cells] at hE)
      | ((with_reducible (show Go.wpList _ _ _ (Go.Oper.mk _ (.load _ _) _ _ _ _ :: _) _ _)); first | (refine wpl_load1 hE 0 rfl rfl rfl rfl (by simp [go_sem]) rfl ?_) | (refine wpl_load1 hE 1 rfl rfl rfl rfl (by simp [go_sem]) rfl ?_) | (refine wpl_load1 hE 2 rfl rfl rfl rfl (by simp [go_sem]) rfl ?_) | (refine wpl_load1 hE 3 rfl rfl rfl rfl (by simp [go_sem]) rfl ?_) | (refine wpl_load1 hE 4 rfl rfl rfl rfl (by simp [go_sem]) rfl ?_) | (refine wpl_load1 hE 5 rfl rfl rfl rfl (by simp [go_sem]) rfl ?_)))
    go_ret
    exact ⟨_, rfl, by rw [R.out]; rfl, hE.tail⟩
  subst eK
  have R := SL.hid (may_yes (x := ⟨d, [], [], [], 0, []⟩) Hd10.out s1 s2 s3 s4 (.inr rfl) (.inr rfl) (.inr rfl) (.inr rfl) (.inr rfl))
  go_enter Try.func49, Try.ntmps49
  go_wp2_with (first
    | go_skip
    | ((with_reducible (show Go.wpList _ _ _ (Go.Oper.mk _ (.box _ _) _ _ _ _ :: _) _ _)); refine wpl_box hE rfl rfl rfl ?_; clear hE; intro b2 w hE; simp only [Act.eval, Act.put, List.setIfInBounds_toArray, List.set_cons_zero, List.set_cons_succ, getD_lit, List.getD_cons_succ, List.getD_cons_zero, Value.cells] at hE)
    | ((with_reducible (show Go.wpList _ _ _ (Go.Oper.mk _ (.load _ _) _ _ _ _ :: _) _ _)); first | (refine wpl_load1 hE 0 rfl rfl rfl rfl (by simp [go_sem]) rfl ?_) | (refine wpl_load1 hE 1 rfl rfl rfl rfl (by simp [go_sem]) rfl ?_) | (refine wpl_load1 hE 2 rfl rfl rfl rfl (by simp [go_sem]) rfl ?_) | (refine wpl_load1 hE 3 rfl rfl rfl rfl (by simp [go_sem]) rfl ?_) | (refine wpl_load1 hE 4 rfl rfl rfl rfl (by simp [go_sem]) rfl ?_) | (refine wpl_load1 hE 5 rfl rfl rfl rfl (by simp [go_sem]) rfl ?_)))
  go_loopw [4] (fun i wr => i = .int .i64 0 ∧ Ent (pt b2 (.cells #[.int .u8 d.toNat, .string ⟨#[]⟩, .string ⟨#[]⟩, .slice ao 0 c, .int .u16 0, .string ⟨#[]⟩] 84) :: l) wr) (fun _ _ => 0)
  case atStart => exact ⟨rfl, hE⟩
  case round =>
    clear hE
    obtain ⟨rfl, hE⟩ := hrel
    go_wp2_with (first
      | go_skip
      | ((with_reducible (show Go.wpList _ _ _ (Go.Oper.mk _ (.load _ _) _ _ _ _ :: _) _ _)); first | (refine wpl_load1 hE 0 rfl rfl rfl rfl (by simp [go_sem]) rfl ?_) | (refine wpl_load1 hE 1 rfl rfl rfl rfl (by simp [go_sem]) rfl ?_) | (refine wpl_load1 hE 2 rfl rfl rfl rfl (by simp [go_sem]) rfl ?_) | (refine wpl_load1 hE 3 rfl rfl rfl rfl (by simp [go_sem]) rfl ?_) | (refine wpl_load1 hE 4 rfl rfl rfl rfl (by simp [go_sem]) rfl ?_) | (refine wpl_load1 hE 5 rfl rfl rfl rfl (by simp [go_sem]) rfl ?_)))
    go_ret
    exact ⟨_, rfl, by rw [R.out]; rfl, hE.tail⟩

theorem May27_any {x : SE} {ao : Option Addr} {c : Nat} {l : List HProp} {w : World} (hE : Ent l w) (hk : Knows l (reads (.slice ao x.tree.length c) x.tree.length (treeCells x.tree))) :
    Calls Try.prog 49 #[.agg (xcells x ao c).toArray] w (Ret fun v w' => v = .bool (mayE x) ∧ Ent l w') := by
  by_cases h : 10 < x.do_.toNat ∨ 255 < x.name.length ∨ 255 < x.path.length ∨ 255 < x.keep.length ∨ 255 < x.tree.length
  · exact may27_size h hE
  have hs : x.do_.toNat ≤ 10 ∧ x.name.length ≤ 255 ∧ x.path.length ≤ 255 ∧ x.keep.length ≤ 255 ∧ x.tree.length ≤ 255 := by omega
  clear h
  obtain ⟨h10, s1, s2, s3, s4⟩ := hs
  obtain ⟨d, name, path, tree, acts, keep⟩ := x
  rcases u8cases d with rfl | rfl | rfl | rfl | rfl | rfl | ⟨hp, h0, h1, h2, h3, h7, h8⟩
  · exact may27_0 s1 s2 s3 s4 hE hk
  · exact may27_1 s1 s2 s3 s4 hE hk
  · exact may27_2 s1 s2 s3 s4 hE hk
  · exact may27_3 s1 s2 s3 s4 hE hk
  · exact may27_7 s1 s2 s3 s4 hE hk
  · exact may27_8 s1 s2 s3 s4 hE hk
  · exact may27_o h0 h1 h2 h3 h7 h8 h10 (pieces_none hp) s1 s2 s3 s4 hE hk

end Go.Proofs.Ytohdljcpaogokaa
namespace Go.Proofs.Ytohdljcpaogokaa
open Go.RowKit Go.SL

theorem tes_len : ∀ (t : List TE), t.all teOk = true → (t.flatMap teB).length ≤ t.length * 70000
  | [], _ => by simp
  | y :: t, h => by
    simp only [List.all_cons, Bool.and_eq_true] at h
    have h1 := teB_len h.1
    have h2 := tes_len t h.2
    simp only [List.flatMap_cons, List.length_append, List.length_cons, Nat.succ_mul]
    omega
def ByRel (t : List TE) (pre : List UInt8) (l : List HProp) (s i : Value) (wr : World) : Prop :=
  ∃ k : Nat, k ≤ t.length ∧ i = .int .i64 k ∧ s = .string ⟨(pre ++ (t.take k).flatMap teB).toArray⟩ ∧ Ent l wr


set_option maxRecDepth 100000 in
set_option maxHeartbeats 2000000 in
attribute [-go_sem] Instr.loadAt in
theorem by27_0 {name path keep : List UInt8} {tree : List TE} {acts : Nat} {ao : Option Addr} {c : Nat} (s1 : name.length ≤ 255) (s2 : path.length ≤ 255) (s3 : keep.length ≤ 255) (s4 : tree.length ≤ 255) (s5 : acts < 65536) (ht : tree.all teOk = true) {l : List HProp} {w : World} (hE : Ent l w)
    (hk : Knows l (reads (.slice ao tree.length c) tree.length (treeCells tree))) :
    Calls Try.prog 50 #[.agg #[.int .u8 0, .string ⟨name.toArray⟩, .string ⟨path.toArray⟩, .slice ao tree.length c, .int .u16 acts, .string ⟨keep.toArray⟩]] w (Ret fun v w' => v = .string ⟨(entB ⟨0, name, path, tree, acts, keep⟩).toArray⟩ ∧ Ent l w') := by
  have Ht := SL.hid ht
  clear ht
  have R := SL.hid (show entB ⟨0, name, path, tree, acts, keep⟩ = [0] ++ nmB name ++ [UInt8.ofNat tree.length] ++ tree.flatMap teB by simp [entB, bodyE, treeB, hasName, hasPath, hasTree, hasActs, hasKeep])
  obtain ⟨y0, e0⟩ : ∃ y, y = ([0] : List UInt8) := ⟨_, rfl⟩
  have hC0 : ∀ {l : List HProp} {w : World}, Ent l w → Calls Try.prog 89 #[.int .i64 1, .int .u64 0] w (Ret fun v w' => v = .string ⟨y0.toArray⟩ ∧ Ent l w') := fun h => by subst e0; exact num27_1 (n := 0) (by omega) h
  have Hl0 := SL.hid (show y0.length ≤ 1 by rw [e0]; simp)
  have Hy0 := SL.hid e0
  clear e0
  obtain ⟨y1, e1⟩ : ∃ y, y = nmB name := ⟨_, rfl⟩
  have hC1 : ∀ {l : List HProp} {w : World}, Ent l w → Calls Try.prog 90 #[.string ⟨name.toArray⟩] w (Ret fun v w' => v = .string ⟨y1.toArray⟩ ∧ Ent l w') := fun h => by subst e1; exact name27 s1 h
  have Hl1 := SL.hid (show y1.length ≤ 256 by rw [e1]; simp [nmB]; omega)
  have Hy1 := SL.hid e1
  clear e1
  obtain ⟨p0, q0, j0, c0⟩ := cat2 y0 y1 (by have := Hl0.out; have := Hl1.out; omega)
  have E0 := SL.hid q0
  clear q0
  obtain ⟨y2, e2⟩ : ∃ y, y = [UInt8.ofNat tree.length] := ⟨_, rfl⟩
  have hC2 : ∀ {l : List HProp} {w : World}, Ent l w → Calls Try.prog 89 #[.int .i64 1, .int .u64 tree.length] w (Ret fun v w' => v = .string ⟨y2.toArray⟩ ∧ Ent l w') := fun h => by subst e2; exact num27_1 (by omega) h
  have Hl2 := SL.hid (show y2.length ≤ 1 by rw [e2]; simp)
  have Hy2 := SL.hid e2
  clear e2
  obtain ⟨p1, q1, j1, c1⟩ := cat2 p0 y2 (by have := Hl0.out; have := Hl1.out; have := Hl2.out; rw [E0.out, List.length_append]; omega)
  have E1 := SL.hid q1
  clear q1
  have hwt : IntKind.u64.wrap (tree.length : Int) = tree.length := wrapU_id (by omega)
  go_enter Try.func50, Try.ntmps50
  go_wp2_with (first
    | go_skip
    | ((with_reducible (show Go.wpList _ _ _ (Go.Oper.mk _ (.box _ _) _ _ _ _ :: _) _ _)); refine wpl_box hE rfl rfl rfl ?_; clear hE; intro b1 w hE; simp only [Act.eval, Act.put, List.setIfInBounds_toArray, List.set_cons_zero, List.set_cons_succ, getD_lit, List.getD_cons_succ, List.getD_cons_zero, Value.cells] at hE)
    | (go_at_call 89; refine (hC0 hE).mono ?_; clear hE; rintro e w2 ⟨v, rfl, rfl, hE⟩)
    | ((with_reducible (show Go.wpList _ _ _ (Go.Oper.mk _ (.load _ _) _ _ _ _ :: _) _ _)); first | (refine wpl_load1 hE 0 rfl rfl rfl rfl (by simp [go_sem]) rfl ?_) | (refine wpl_load1 hE 1 rfl rfl rfl rfl (by simp [go_sem]) rfl ?_) | (refine wpl_load1 hE 2 rfl rfl rfl rfl (by simp [go_sem]) rfl ?_) | (refine wpl_load1 hE 3 rfl rfl rfl rfl (by simp [go_sem]) rfl ?_) | (refine wpl_load1 hE 4 rfl rfl rfl rfl (by simp [go_sem]) rfl ?_) | (refine wpl_load1 hE 5 rfl rfl rfl rfl (by simp [go_sem]) rfl ?_)))
  refine wp_region_held_drew (S := (fun w' => (Instr.loadAt 9 (.pointer (some ⟨b1, 1, none⟩))).run Try.prog w' = .ok (.string ⟨name.toArray⟩) w' ∧ (Instr.loadAt 81 (.pointer (some ⟨b1, 3, none⟩))).run Try.prog w' = .ok (.slice ao tree.length c) w')) (by kernel_rfl) ⟨atV hE.drew 0 rfl (by simp [go_sem]) rfl, atV hE.drew 0 rfl (by simp [go_sem]) rfl⟩ (fun hS => ?_)
  refine wpAnyH_take (i := 0) (oi := { dst := some 15, op := Go.Op.move (Go.Operand.tmp 3), type := 9, pos := "ref.go:49", after := #[], guard := none }) (v := ?_) rfl (by kernel_rfl) (by kernel_rfl) (by kernel_rfl) (fun _ _ _ h => h) (Or.inl ⟨by rfl, ?_⟩) hS ?_
  rotate_left
  · (intro w hSw; (try dsimp only at hSw); go_simp; (try with_reducible rfl))
  try simp only [Act.put, List.setIfInBounds_toArray, List.set_cons_zero, List.set_cons_succ]
  refine wpAnyH_take (i := 1) (oi := { dst := some 16, op := Go.Op.fieldAddr 84 (Go.Operand.tmp 1) 1, type := 0, pos := "ref.go:49", after := #[], guard := none }) (v := ?_) rfl (by kernel_rfl) (by kernel_rfl) (by kernel_rfl) (fun _ _ _ h => h) (Or.inl ⟨by rfl, ?_⟩) hS ?_
  rotate_left
  · (intro w hSw; (try dsimp only at hSw); go_simp; (try with_reducible rfl))
  try simp only [Act.put, List.setIfInBounds_toArray, List.set_cons_zero, List.set_cons_succ]
  refine wpAnyH_take (i := 2) (oi := { dst := some 17, op := Go.Op.load 9 (Go.Operand.tmp 16), type := 9, pos := "ref.go:49", after := #[{ on := 1, ground := Go.Ground.data }], guard := none }) (v := ?_) rfl (by kernel_rfl) (by kernel_rfl) (by kernel_rfl) (fun _ _ _ h => h) (Or.inl ⟨by rfl, ?_⟩) hS ?_
  rotate_left
  · (intro w hSw; (try dsimp only at hSw); go_simp; (try with_reducible rfl))
  try simp only [Act.put, List.setIfInBounds_toArray, List.set_cons_zero, List.set_cons_succ]
  refine wpAnyH_take (i := 5) (oi := { dst := some 20, op := Go.Op.fieldAddr 84 (Go.Operand.tmp 1) 3, type := 0, pos := "ref.go:49", after := #[], guard := none }) (v := ?_) rfl (by kernel_rfl) (by kernel_rfl) (by kernel_rfl) (fun _ _ _ h => h) (Or.inl ⟨by rfl, ?_⟩) hS ?_
  rotate_left
  · (intro w hSw; (try dsimp only at hSw); go_simp; (try with_reducible rfl))
  try simp only [Act.put, List.setIfInBounds_toArray, List.set_cons_zero, List.set_cons_succ]
  refine wpAnyH_take (i := 6) (oi := { dst := some 21, op := Go.Op.load 81 (Go.Operand.tmp 20), type := 81, pos := "ref.go:49", after := #[{ on := 5, ground := Go.Ground.data }], guard := none }) (v := ?_) rfl (by kernel_rfl) (by kernel_rfl) (by kernel_rfl) (fun _ _ _ h => h) (Or.inl ⟨by rfl, ?_⟩) hS ?_
  rotate_left
  · (intro w hSw; (try dsimp only at hSw); go_simp; (try with_reducible rfl))
  try simp only [Act.put, List.setIfInBounds_toArray, List.set_cons_zero, List.set_cons_succ]
  refine wpAnyH_take (i := 7) (oi := { dst := some 22, op := Go.Op.call { callee := Go.Callee.builtin Go.Builtin.len, args := #[Go.Operand.tmp 21], argTypes := #[81] }, type := 3, pos := "ref.go:49", after := #[{ on := 6, ground := Go.Ground.data }], guard := none }) (v := ?_) rfl (by kernel_rfl) (by kernel_rfl) (by kernel_rfl) (fun _ _ _ h => h) (Or.inl ⟨by rfl, ?_⟩) hS ?_
  rotate_left
  · (intro w hSw; (try dsimp only at hSw); go_simp; (try with_reducible rfl))
  try simp only [Act.put, List.setIfInBounds_toArray, List.set_cons_zero, List.set_cons_succ]
  refine wpAnyH_take (i := 8) (oi := { dst := some 23, op := Go.Op.convert 3 91 (Go.Operand.tmp 22), type := 91, pos := "ref.go:49", after := #[{ on := 7, ground := Go.Ground.data }], guard := none }) (v := ?_) rfl (by kernel_rfl) (by kernel_rfl) (by kernel_rfl) (fun _ _ _ h => h) (Or.inl ⟨by rfl, ?_⟩) hS ?_
  rotate_left
  · (intro w hSw; (try dsimp only at hSw); go_simp; (try with_reducible rfl))
  try simp only [Act.put, List.setIfInBounds_toArray, List.set_cons_zero, List.set_cons_succ]
  refine wpAnyH_ready (rs := [3]) (by kernel_rfl) (by simp) ?_
  refine (AllReadyH.cons (o := { dst := some 18, op := Go.Op.call { callee := Go.Callee.value (Go.Operand.func 90), args := #[Go.Operand.tmp 17], argTypes := #[9] }, type := 9, pos := "ref.go:49", after := #[{ on := 2, ground := Go.Ground.data }], guard := none }) rfl (fun K hK => ?_) AllReadyH.nil)
  (go_simp; refine (hC1 hE.drew).mono ?_; rintro e w3 ⟨v, rfl, rfl, hE3⟩)
  refine hK.out _ _ ⟨atV hE3 0 rfl (by simp [go_sem]) rfl, atV hE3 0 rfl (by simp [go_sem]) rfl⟩ (fun hS => ?_)
  clear hK K
  try simp only [Act.put, List.setIfInBounds_toArray, List.set_cons_zero, List.set_cons_succ]
  refine wpAnyH_take (i := 4) (oi := { dst := some 19, op := Go.Op.binOp Go.BinOp.add 9 (Go.Operand.tmp 15) (Go.Operand.tmp 18) 9, type := 9, pos := "ref.go:49", after := #[{ on := 0, ground := Go.Ground.data }, { on := 3, ground := Go.Ground.data }], guard := none }) (v := ?_) rfl (by kernel_rfl) (by kernel_rfl) (by kernel_rfl) (fun _ _ _ h => h) (Or.inl ⟨by rfl, ?_⟩) hS ?_
  rotate_left
  · (intro w hSw; (try dsimp only at hSw); go_simp; (try with_reducible rfl))
  try simp only [Act.put, List.setIfInBounds_toArray, List.set_cons_zero, List.set_cons_succ]
  refine wpAnyH_ready (rs := [9]) (by kernel_rfl) (by simp) ?_
  refine (AllReadyH.cons (o := { dst := some 24, op := Go.Op.call { callee := Go.Callee.value (Go.Operand.func 89), args := #[Go.Operand.const (Go.Value.int Go.IntKind.i64 1), Go.Operand.tmp 23], argTypes := #[3, 91] }, type := 9, pos := "ref.go:49", after := #[{ on := 8, ground := Go.Ground.data }, { on := 3, ground := Go.Ground.chain }], guard := none }) rfl (fun K hK => ?_) AllReadyH.nil)
  (go_simp; refine (hC2 hE3).mono ?_; rintro e w4 ⟨v, rfl, rfl, hE4⟩)
  refine hK.out _ _ ⟨atV hE4 0 rfl (by simp [go_sem]) rfl, atV hE4 0 rfl (by simp [go_sem]) rfl⟩ (fun hS => ?_)
  clear hK K
  try simp only [Act.put, List.setIfInBounds_toArray, List.set_cons_zero, List.set_cons_succ]
  refine wpAnyH_take (i := 10) (oi := { dst := some 25, op := Go.Op.binOp Go.BinOp.add 9 (Go.Operand.tmp 19) (Go.Operand.tmp 24) 9, type := 9, pos := "ref.go:49", after := #[{ on := 4, ground := Go.Ground.data }, { on := 9, ground := Go.Ground.data }], guard := none }) (v := ?_) rfl (by kernel_rfl) (by kernel_rfl) (by kernel_rfl) (fun _ _ _ h => h) (Or.inl ⟨by rfl, ?_⟩) hS ?_
  rotate_left
  · (intro w hSw; (try dsimp only at hSw); go_simp; (try with_reducible rfl))
  try simp only [Act.put, List.setIfInBounds_toArray, List.set_cons_zero, List.set_cons_succ]
  refine wpAnyH_take (i := 11) (oi := { dst := some 3, op := Go.Op.assign (Go.Operand.tmp 25), type := 9, pos := "ref.go:49", after := #[{ on := 10, ground := Go.Ground.data }, { on := 9, ground := Go.Ground.chain }, { on := 0, ground := Go.Ground.phase }, { on := 1, ground := Go.Ground.phase }, { on := 2, ground := Go.Ground.phase }, { on := 3, ground := Go.Ground.phase }, { on := 4, ground := Go.Ground.phase }, { on := 5, ground := Go.Ground.phase }, { on := 6, ground := Go.Ground.phase }, { on := 7, ground := Go.Ground.phase }, { on := 8, ground := Go.Ground.phase }, { on := 9, ground := Go.Ground.phase }, { on := 10, ground := Go.Ground.phase }], guard := none }) (v := ?_) rfl (by kernel_rfl) (by kernel_rfl) (by kernel_rfl) (fun _ _ _ h => h) (Or.inl ⟨by rfl, ?_⟩) hS ?_
  rotate_left
  · (intro w hSw; (try dsimp only at hSw); go_simp; (try with_reducible rfl))
  try simp only [Act.put, List.setIfInBounds_toArray, List.set_cons_zero, List.set_cons_succ]
  refine wpAnyH_done (by kernel_rfl) ?_ _
  go_wp2
  have Hpl := SL.hid (show p1.length ≤ 300 by have := Hl0.out; have := Hl1.out; have := Hl2.out; rw [E1.out, E0.out, List.length_append, List.length_append]; omega)
  go_loopw [3, 4] (fun s i wr => ByRel tree p1 (pt b1 (.cells #[.int .u8 0, .string ⟨name.toArray⟩, .string ⟨path.toArray⟩, .slice ao tree.length c, .int .u16 acts, .string ⟨keep.toArray⟩] 84) :: l) s i wr) (fun _ i _ => tree.length - (intOf i).toNat)
  case atStart => exact ⟨0, Nat.zero_le _, rfl, by simp, hE4⟩
  case round =>
    clear hE4 hE3 hE
    obtain ⟨k, hkl, rfl, rfl, hE⟩ := hrel
    by_cases hlt : k < tree.length
    · obtain ⟨ba, oa, rfl, _⟩ := reads_form (hk _ hE.tail) (by omega) (by rw [treeCells_len]; omega)
      have hcx := te_cells (hk _ hE.tail) hlt
      have Hs := SL.hid (show (tree.take (k + 1)).flatMap teB = (tree.take k).flatMap teB ++ teB tree[k] by rw [List.take_succ_eq_append_getElem hlt, List.flatMap_append]; simp)
      have hok : teOk tree[k] = true := List.all_eq_true.1 Ht.out _ (List.getElem_mem hlt)
      have hlen := tes_len (tree.take k) (List.all_eq_true.2 fun y hy => List.all_eq_true.1 Ht.out y (List.mem_of_mem_take hy))
      have Hfit := SL.hid (show (p1 ++ (tree.take k).flatMap teB).length ≤ 20000000 by
        have := Hpl.out
        have h2 : (tree.take k).length ≤ 255 := by rw [List.length_take]; omega
        have h3 : (tree.take k).length * 70000 ≤ 255 * 70000 := Nat.mul_le_mul_right _ h2
        rw [List.length_append]
        omega)
      clear hlen
      have Hs2 := SL.hid (show p1 ++ (tree.take (k + 1)).flatMap teB = (p1 ++ (tree.take k).flatMap teB) ++ teB tree[k] by rw [Hs.out, List.append_assoc])
      generalize p1 ++ (tree.take k).flatMap teB = pre at *
      generalize tree[k] = y at *
      obtain ⟨yp, yd, ydat⟩ := y
      have Hcx := SL.hid (show ∀ j v, ([.string ⟨yp.toArray⟩, .bool yd, .string ⟨ydat.toArray⟩] : List Value)[j]? = some v → _ from hcx)
      clear hcx
      simp only [teOk, Bool.and_eq_true, decide_eq_true_eq] at hok
      obtain ⟨g1, g2⟩ := hok
      have hwd : IntKind.u64.wrap (ydat.length : Int) = ydat.length := wrapU_id (by omega)
      obtain ⟨y4, e4⟩ : ∃ y, y = nmB yp := ⟨_, rfl⟩
      have hC4 : ∀ {l : List HProp} {w : World}, Ent l w → Calls Try.prog 90 #[.string ⟨yp.toArray⟩] w (Ret fun v w' => v = .string ⟨y4.toArray⟩ ∧ Ent l w') := fun h => by subst e4; exact name27 g1 h
      have Hl4 := SL.hid (show y4.length ≤ 256 by rw [e4]; simp [nmB]; omega)
      have Hy4 := SL.hid e4
      clear e4
      obtain ⟨y6, e6⟩ : ∃ y, y = be 2 ydat.length := ⟨_, rfl⟩
      have hC6 : ∀ {l : List HProp} {w : World}, Ent l w → Calls Try.prog 89 #[.int .i64 2, .int .u64 ydat.length] w (Ret fun v w' => v = .string ⟨y6.toArray⟩ ∧ Ent l w') := fun h => by subst e6; exact num27_2 (by omega) h
      have Hl6 := SL.hid (show y6.length ≤ 2 by rw [e6]; simp [be_length])
      have Hy6 := SL.hid e6
      clear e6
      cases yd
      case false =>
        obtain ⟨y5, e5⟩ : ∃ y, y = ([0] : List UInt8) := ⟨_, rfl⟩
        have hC5 : ∀ {l : List HProp} {w : World}, Ent l w → Calls Try.prog 89 #[.int .i64 1, .int .u64 0] w (Ret fun v w' => v = .string ⟨y5.toArray⟩ ∧ Ent l w') := fun h => by subst e5; exact num27_1 (n := 0) (by omega) h
        have Hl5 := SL.hid (show y5.length ≤ 1 by rw [e5]; simp)
        have Hy5 := SL.hid e5
        clear e5
        obtain ⟨p4, q4, j4, c4⟩ := cat2 pre y4 (by have := Hfit.out; have := Hl4.out; have := Hl5.out; have := Hl6.out; skip; omega)
        have E4 := SL.hid q4
        clear q4
        obtain ⟨p5, q5, j5, c5⟩ := cat2 p4 y5 (by have := Hfit.out; have := Hl4.out; have := Hl5.out; have := Hl6.out; rw [E4.out, List.length_append]; omega)
        have E5 := SL.hid q5
        clear q5
        obtain ⟨p6, q6, j6, c6⟩ := cat2 p5 y6 (by have := Hfit.out; have := Hl4.out; have := Hl5.out; have := Hl6.out; rw [E5.out, E4.out, List.length_append, List.length_append]; omega)
        have E6 := SL.hid q6
        clear q6
        obtain ⟨p7, q7, j7, c7⟩ := cat2 p6 ydat (by have := Hfit.out; have := Hl4.out; have := Hl5.out; have := Hl6.out; rw [E6.out, E5.out, E4.out, List.length_append, List.length_append, List.length_append]; omega)
        have E7 := SL.hid q7
        clear q7
        go_wp2_with (first
          | go_skip
          | ((with_reducible (show Go.wpList _ _ _ (Go.Oper.mk _ (.load 86 _) _ _ _ _ :: _) _ _)); refine wpl_loadC rfl rfl rfl Try.isAgg86 Try.sizeOf86 [.string ⟨yp.toArray⟩, .bool false, .string ⟨ydat.toArray⟩] rfl Hcx.out ?_)
          | ((with_reducible (show Go.wpList _ _ _ (Go.Oper.mk _ (.alloc _) _ _ _ _ :: _) _ _)); refine wpl_alloc hE rfl rfl (by simp [go_sem]; rfl) ?_; clear hE; intro b5 w hE2)
          | ((with_reducible (show Go.wpList _ _ _ (Go.Oper.mk _ (.store _ _ _) _ _ _ _ :: _) _ _)); refine wpl_storeW hE2 0 rfl rfl rfl (xs := [.string ⟨yp.toArray⟩, .bool false, .string ⟨ydat.toArray⟩]) rfl rfl Try.sizeOf86 rfl (by simp [Value.oneCell']) rfl ?_; clear hE2; intro w hE3; simp only [List.set_cons_zero, List.set_cons_succ] at hE3)
          | ((with_reducible (show Go.wpList _ _ _ (Go.Oper.mk _ (.load 4 _) _ _ _ _ :: _) _ _)); refine wpl_load1 hE3 0 rfl rfl rfl rfl (by simp [go_sem]) rfl ?_)
          | ((with_reducible (show Go.wpList _ _ _ (Go.Oper.mk _ (.load _ _) _ _ _ _ :: _) _ _)); first | (refine wpl_load1 hE 0 rfl rfl rfl rfl (by simp [go_sem]) rfl ?_) | (refine wpl_load1 hE 1 rfl rfl rfl rfl (by simp [go_sem]) rfl ?_) | (refine wpl_load1 hE 2 rfl rfl rfl rfl (by simp [go_sem]) rfl ?_) | (refine wpl_load1 hE 3 rfl rfl rfl rfl (by simp [go_sem]) rfl ?_) | (refine wpl_load1 hE 4 rfl rfl rfl rfl (by simp [go_sem]) rfl ?_) | (refine wpl_load1 hE 5 rfl rfl rfl rfl (by simp [go_sem]) rfl ?_)))
        refine wp_region_held_drew (S := (fun w' => (Instr.loadAt 9 (.pointer (some ⟨b5, 0, none⟩))).run Try.prog w' = .ok (.string ⟨yp.toArray⟩) w' ∧ (Instr.loadAt 9 (.pointer (some ⟨b5, 2, none⟩))).run Try.prog w' = .ok (.string ⟨ydat.toArray⟩) w')) (by kernel_rfl) ⟨atV hE3.drew 0 rfl (by simp [go_sem]) rfl, atV hE3.drew 0 rfl (by simp [go_sem]) rfl⟩ (fun hS => ?_)
        refine wpAnyH_take (i := 0) (oi := { dst := some 40, op := Go.Op.move (Go.Operand.tmp 3), type := 9, pos := "ref.go:56", after := #[], guard := none }) (v := ?_) rfl (by kernel_rfl) (by kernel_rfl) (by kernel_rfl) (fun _ _ _ h => h) (Or.inl ⟨by rfl, ?_⟩) hS ?_
        rotate_left
        · (intro w hSw; (try dsimp only at hSw); go_simp; (try with_reducible rfl))
        try simp only [Act.put, List.setIfInBounds_toArray, List.set_cons_zero, List.set_cons_succ]
        refine wpAnyH_take (i := 1) (oi := { dst := some 41, op := Go.Op.fieldAddr 86 (Go.Operand.tmp 5) 0, type := 0, pos := "ref.go:56", after := #[], guard := none }) (v := ?_) rfl (by kernel_rfl) (by kernel_rfl) (by kernel_rfl) (fun _ _ _ h => h) (Or.inl ⟨by rfl, ?_⟩) hS ?_
        rotate_left
        · (intro w hSw; (try dsimp only at hSw); go_simp; (try with_reducible rfl))
        try simp only [Act.put, List.setIfInBounds_toArray, List.set_cons_zero, List.set_cons_succ]
        refine wpAnyH_take (i := 2) (oi := { dst := some 42, op := Go.Op.load 9 (Go.Operand.tmp 41), type := 9, pos := "ref.go:56", after := #[{ on := 1, ground := Go.Ground.data }], guard := none }) (v := ?_) rfl (by kernel_rfl) (by kernel_rfl) (by kernel_rfl) (fun _ _ _ h => h) (Or.inl ⟨by rfl, ?_⟩) hS ?_
        rotate_left
        · (intro w hSw; (try dsimp only at hSw); go_simp; (try with_reducible rfl))
        try simp only [Act.put, List.setIfInBounds_toArray, List.set_cons_zero, List.set_cons_succ]
        refine wpAnyH_take (i := 5) (oi := { dst := some 45, op := Go.Op.move (Go.Operand.tmp 6), type := 91, pos := "ref.go:56", after := #[], guard := none }) (v := ?_) rfl (by kernel_rfl) (by kernel_rfl) (by kernel_rfl) (fun _ _ _ h => h) (Or.inl ⟨by rfl, ?_⟩) hS ?_
        rotate_left
        · (intro w hSw; (try dsimp only at hSw); go_simp; (try with_reducible rfl))
        try simp only [Act.put, List.setIfInBounds_toArray, List.set_cons_zero, List.set_cons_succ]
        refine wpAnyH_take (i := 8) (oi := { dst := some 48, op := Go.Op.fieldAddr 86 (Go.Operand.tmp 5) 2, type := 0, pos := "ref.go:56", after := #[], guard := none }) (v := ?_) rfl (by kernel_rfl) (by kernel_rfl) (by kernel_rfl) (fun _ _ _ h => h) (Or.inl ⟨by rfl, ?_⟩) hS ?_
        rotate_left
        · (intro w hSw; (try dsimp only at hSw); go_simp; (try with_reducible rfl))
        try simp only [Act.put, List.setIfInBounds_toArray, List.set_cons_zero, List.set_cons_succ]
        refine wpAnyH_take (i := 9) (oi := { dst := some 49, op := Go.Op.load 9 (Go.Operand.tmp 48), type := 9, pos := "ref.go:56", after := #[{ on := 8, ground := Go.Ground.data }], guard := none }) (v := ?_) rfl (by kernel_rfl) (by kernel_rfl) (by kernel_rfl) (fun _ _ _ h => h) (Or.inl ⟨by rfl, ?_⟩) hS ?_
        rotate_left
        · (intro w hSw; (try dsimp only at hSw); go_simp; (try with_reducible rfl))
        try simp only [Act.put, List.setIfInBounds_toArray, List.set_cons_zero, List.set_cons_succ]
        refine wpAnyH_take (i := 10) (oi := { dst := some 50, op := Go.Op.call { callee := Go.Callee.builtin Go.Builtin.len, args := #[Go.Operand.tmp 49], argTypes := #[9] }, type := 3, pos := "ref.go:56", after := #[{ on := 9, ground := Go.Ground.data }], guard := none }) (v := ?_) rfl (by kernel_rfl) (by kernel_rfl) (by kernel_rfl) (fun _ _ _ h => h) (Or.inl ⟨by rfl, ?_⟩) hS ?_
        rotate_left
        · (intro w hSw; (try dsimp only at hSw); go_simp; (try with_reducible rfl))
        try simp only [Act.put, List.setIfInBounds_toArray, List.set_cons_zero, List.set_cons_succ]
        refine wpAnyH_take (i := 11) (oi := { dst := some 51, op := Go.Op.convert 3 91 (Go.Operand.tmp 50), type := 91, pos := "ref.go:56", after := #[{ on := 10, ground := Go.Ground.data }], guard := none }) (v := ?_) rfl (by kernel_rfl) (by kernel_rfl) (by kernel_rfl) (fun _ _ _ h => h) (Or.inl ⟨by rfl, ?_⟩) hS ?_
        rotate_left
        · (intro w hSw; (try dsimp only at hSw); go_simp; (try with_reducible rfl))
        try simp only [Act.put, List.setIfInBounds_toArray, List.set_cons_zero, List.set_cons_succ]
        refine wpAnyH_take (i := 14) (oi := { dst := some 54, op := Go.Op.fieldAddr 86 (Go.Operand.tmp 5) 2, type := 0, pos := "ref.go:56", after := #[], guard := none }) (v := ?_) rfl (by kernel_rfl) (by kernel_rfl) (by kernel_rfl) (fun _ _ _ h => h) (Or.inl ⟨by rfl, ?_⟩) hS ?_
        rotate_left
        · (intro w hSw; (try dsimp only at hSw); go_simp; (try with_reducible rfl))
        try simp only [Act.put, List.setIfInBounds_toArray, List.set_cons_zero, List.set_cons_succ]
        refine wpAnyH_take (i := 15) (oi := { dst := some 55, op := Go.Op.load 9 (Go.Operand.tmp 54), type := 9, pos := "ref.go:56", after := #[{ on := 14, ground := Go.Ground.data }], guard := none }) (v := ?_) rfl (by kernel_rfl) (by kernel_rfl) (by kernel_rfl) (fun _ _ _ h => h) (Or.inl ⟨by rfl, ?_⟩) hS ?_
        rotate_left
        · (intro w hSw; (try dsimp only at hSw); go_simp; (try with_reducible rfl))
        try simp only [Act.put, List.setIfInBounds_toArray, List.set_cons_zero, List.set_cons_succ]
        refine wpAnyH_ready (rs := [3]) (by kernel_rfl) (by simp) ?_
        refine (AllReadyH.cons (o := { dst := some 43, op := Go.Op.call { callee := Go.Callee.value (Go.Operand.func 90), args := #[Go.Operand.tmp 42], argTypes := #[9] }, type := 9, pos := "ref.go:56", after := #[{ on := 2, ground := Go.Ground.data }], guard := none }) rfl (fun K hK => ?_) AllReadyH.nil)
        (go_simp; refine (hC4 hE3.drew).mono ?_; rintro e w4 ⟨v, rfl, rfl, hE4⟩)
        refine hK.out _ _ ⟨atV hE4 0 rfl (by simp [go_sem]) rfl, atV hE4 0 rfl (by simp [go_sem]) rfl⟩ (fun hS => ?_)
        clear hK K
        try simp only [Act.put, List.setIfInBounds_toArray, List.set_cons_zero, List.set_cons_succ]
        refine wpAnyH_take (i := 4) (oi := { dst := some 44, op := Go.Op.binOp Go.BinOp.add 9 (Go.Operand.tmp 40) (Go.Operand.tmp 43) 9, type := 9, pos := "ref.go:56", after := #[{ on := 0, ground := Go.Ground.data }, { on := 3, ground := Go.Ground.data }], guard := none }) (v := ?_) rfl (by kernel_rfl) (by kernel_rfl) (by kernel_rfl) (fun _ _ _ h => h) (Or.inl ⟨by rfl, ?_⟩) hS ?_
        rotate_left
        · (intro w hSw; (try dsimp only at hSw); go_simp; (try with_reducible rfl))
        try simp only [Act.put, List.setIfInBounds_toArray, List.set_cons_zero, List.set_cons_succ]
        refine wpAnyH_ready (rs := [6]) (by kernel_rfl) (by simp) ?_
        refine (AllReadyH.cons (o := { dst := some 46, op := Go.Op.call { callee := Go.Callee.value (Go.Operand.func 89), args := #[Go.Operand.const (Go.Value.int Go.IntKind.i64 1), Go.Operand.tmp 45], argTypes := #[3, 91] }, type := 9, pos := "ref.go:56", after := #[{ on := 5, ground := Go.Ground.data }, { on := 3, ground := Go.Ground.chain }], guard := none }) rfl (fun K hK => ?_) AllReadyH.nil)
        (go_simp; refine (hC5 hE4).mono ?_; rintro e w5 ⟨v, rfl, rfl, hE5⟩)
        refine hK.out _ _ ⟨atV hE5 0 rfl (by simp [go_sem]) rfl, atV hE5 0 rfl (by simp [go_sem]) rfl⟩ (fun hS => ?_)
        clear hK K
        try simp only [Act.put, List.setIfInBounds_toArray, List.set_cons_zero, List.set_cons_succ]
        refine wpAnyH_take (i := 7) (oi := { dst := some 47, op := Go.Op.binOp Go.BinOp.add 9 (Go.Operand.tmp 44) (Go.Operand.tmp 46) 9, type := 9, pos := "ref.go:56", after := #[{ on := 4, ground := Go.Ground.data }, { on := 6, ground := Go.Ground.data }], guard := none }) (v := ?_) rfl (by kernel_rfl) (by kernel_rfl) (by kernel_rfl) (fun _ _ _ h => h) (Or.inl ⟨by rfl, ?_⟩) hS ?_
        rotate_left
        · (intro w hSw; (try dsimp only at hSw); go_simp; (try with_reducible rfl))
        try simp only [Act.put, List.setIfInBounds_toArray, List.set_cons_zero, List.set_cons_succ]
        refine wpAnyH_ready (rs := [12]) (by kernel_rfl) (by simp) ?_
        refine (AllReadyH.cons (o := { dst := some 52, op := Go.Op.call { callee := Go.Callee.value (Go.Operand.func 89), args := #[Go.Operand.const (Go.Value.int Go.IntKind.i64 2), Go.Operand.tmp 51], argTypes := #[3, 91] }, type := 9, pos := "ref.go:56", after := #[{ on := 11, ground := Go.Ground.data }, { on := 6, ground := Go.Ground.chain }], guard := none }) rfl (fun K hK => ?_) AllReadyH.nil)
        (go_simp; refine (hC6 hE5).mono ?_; rintro e w6 ⟨v, rfl, rfl, hE6⟩)
        refine hK.out _ _ ⟨atV hE6 0 rfl (by simp [go_sem]) rfl, atV hE6 0 rfl (by simp [go_sem]) rfl⟩ (fun hS => ?_)
        clear hK K
        try simp only [Act.put, List.setIfInBounds_toArray, List.set_cons_zero, List.set_cons_succ]
        refine wpAnyH_take (i := 13) (oi := { dst := some 53, op := Go.Op.binOp Go.BinOp.add 9 (Go.Operand.tmp 47) (Go.Operand.tmp 52) 9, type := 9, pos := "ref.go:56", after := #[{ on := 7, ground := Go.Ground.data }, { on := 12, ground := Go.Ground.data }], guard := none }) (v := ?_) rfl (by kernel_rfl) (by kernel_rfl) (by kernel_rfl) (fun _ _ _ h => h) (Or.inl ⟨by rfl, ?_⟩) hS ?_
        rotate_left
        · (intro w hSw; (try dsimp only at hSw); go_simp; (try with_reducible rfl))
        try simp only [Act.put, List.setIfInBounds_toArray, List.set_cons_zero, List.set_cons_succ]
        refine wpAnyH_take (i := 16) (oi := { dst := some 56, op := Go.Op.binOp Go.BinOp.add 9 (Go.Operand.tmp 53) (Go.Operand.tmp 55) 9, type := 9, pos := "ref.go:56", after := #[{ on := 13, ground := Go.Ground.data }, { on := 15, ground := Go.Ground.data }], guard := none }) (v := ?_) rfl (by kernel_rfl) (by kernel_rfl) (by kernel_rfl) (fun _ _ _ h => h) (Or.inl ⟨by rfl, ?_⟩) hS ?_
        rotate_left
        · (intro w hSw; (try dsimp only at hSw); go_simp; (try with_reducible rfl))
        try simp only [Act.put, List.setIfInBounds_toArray, List.set_cons_zero, List.set_cons_succ]
        refine wpAnyH_take (i := 17) (oi := { dst := some 3, op := Go.Op.assign (Go.Operand.tmp 56), type := 9, pos := "ref.go:56", after := #[{ on := 16, ground := Go.Ground.data }, { on := 12, ground := Go.Ground.chain }, { on := 0, ground := Go.Ground.phase }, { on := 1, ground := Go.Ground.phase }, { on := 2, ground := Go.Ground.phase }, { on := 3, ground := Go.Ground.phase }, { on := 4, ground := Go.Ground.phase }, { on := 5, ground := Go.Ground.phase }, { on := 6, ground := Go.Ground.phase }, { on := 7, ground := Go.Ground.phase }, { on := 8, ground := Go.Ground.phase }, { on := 9, ground := Go.Ground.phase }, { on := 10, ground := Go.Ground.phase }, { on := 11, ground := Go.Ground.phase }, { on := 12, ground := Go.Ground.phase }, { on := 13, ground := Go.Ground.phase }, { on := 14, ground := Go.Ground.phase }, { on := 15, ground := Go.Ground.phase }, { on := 16, ground := Go.Ground.phase }], guard := none }) (v := ?_) rfl (by kernel_rfl) (by kernel_rfl) (by kernel_rfl) (fun _ _ _ h => h) (Or.inl ⟨by rfl, ?_⟩) hS ?_
        rotate_left
        · (intro w hSw; (try dsimp only at hSw); go_simp; (try with_reducible rfl))
        try simp only [Act.put, List.setIfInBounds_toArray, List.set_cons_zero, List.set_cons_succ]
        refine wpAnyH_done (by kernel_rfl) ?_ _
        go_wp2
        go_roundw
        case rel => exact ⟨k + 1, hlt, by simp, by rw [Hs2.out, E7.out, E6.out, E5.out, E4.out, Hy4.out, Hy5.out, Hy6.out]; simp [teB], hE6.tail⟩
        case measure => simp [intOf]; omega
      case true =>
        obtain ⟨y5, e5⟩ : ∃ y, y = ([1] : List UInt8) := ⟨_, rfl⟩
        have hC5 : ∀ {l : List HProp} {w : World}, Ent l w → Calls Try.prog 89 #[.int .i64 1, .int .u64 1] w (Ret fun v w' => v = .string ⟨y5.toArray⟩ ∧ Ent l w') := fun h => by subst e5; exact num27_1 (n := 1) (by omega) h
        have Hl5 := SL.hid (show y5.length ≤ 1 by rw [e5]; simp)
        have Hy5 := SL.hid e5
        clear e5
        obtain ⟨p4, q4, j4, c4⟩ := cat2 pre y4 (by have := Hfit.out; have := Hl4.out; have := Hl5.out; have := Hl6.out; skip; omega)
        have E4 := SL.hid q4
        clear q4
        obtain ⟨p5, q5, j5, c5⟩ := cat2 p4 y5 (by have := Hfit.out; have := Hl4.out; have := Hl5.out; have := Hl6.out; rw [E4.out, List.length_append]; omega)
        have E5 := SL.hid q5
        clear q5
        obtain ⟨p6, q6, j6, c6⟩ := cat2 p5 y6 (by have := Hfit.out; have := Hl4.out; have := Hl5.out; have := Hl6.out; rw [E5.out, E4.out, List.length_append, List.length_append]; omega)
        have E6 := SL.hid q6
        clear q6
        obtain ⟨p7, q7, j7, c7⟩ := cat2 p6 ydat (by have := Hfit.out; have := Hl4.out; have := Hl5.out; have := Hl6.out; rw [E6.out, E5.out, E4.out, List.length_append, List.length_append, List.length_append]; omega)
        have E7 := SL.hid q7
        clear q7
        go_wp2_with (first
          | go_skip
          | ((with_reducible (show Go.wpList _ _ _ (Go.Oper.mk _ (.load 86 _) _ _ _ _ :: _) _ _)); refine wpl_loadC rfl rfl rfl Try.isAgg86 Try.sizeOf86 [.string ⟨yp.toArray⟩, .bool true, .string ⟨ydat.toArray⟩] rfl Hcx.out ?_)
          | ((with_reducible (show Go.wpList _ _ _ (Go.Oper.mk _ (.alloc _) _ _ _ _ :: _) _ _)); refine wpl_alloc hE rfl rfl (by simp [go_sem]; rfl) ?_; clear hE; intro b5 w hE2)
          | ((with_reducible (show Go.wpList _ _ _ (Go.Oper.mk _ (.store _ _ _) _ _ _ _ :: _) _ _)); refine wpl_storeW hE2 0 rfl rfl rfl (xs := [.string ⟨yp.toArray⟩, .bool true, .string ⟨ydat.toArray⟩]) rfl rfl Try.sizeOf86 rfl (by simp [Value.oneCell']) rfl ?_; clear hE2; intro w hE3; simp only [List.set_cons_zero, List.set_cons_succ] at hE3)
          | ((with_reducible (show Go.wpList _ _ _ (Go.Oper.mk _ (.load 4 _) _ _ _ _ :: _) _ _)); refine wpl_load1 hE3 0 rfl rfl rfl rfl (by simp [go_sem]) rfl ?_)
          | ((with_reducible (show Go.wpList _ _ _ (Go.Oper.mk _ (.load _ _) _ _ _ _ :: _) _ _)); first | (refine wpl_load1 hE 0 rfl rfl rfl rfl (by simp [go_sem]) rfl ?_) | (refine wpl_load1 hE 1 rfl rfl rfl rfl (by simp [go_sem]) rfl ?_) | (refine wpl_load1 hE 2 rfl rfl rfl rfl (by simp [go_sem]) rfl ?_) | (refine wpl_load1 hE 3 rfl rfl rfl rfl (by simp [go_sem]) rfl ?_) | (refine wpl_load1 hE 4 rfl rfl rfl rfl (by simp [go_sem]) rfl ?_) | (refine wpl_load1 hE 5 rfl rfl rfl rfl (by simp [go_sem]) rfl ?_)))
        refine wp_region_held_drew (S := (fun w' => (Instr.loadAt 9 (.pointer (some ⟨b5, 0, none⟩))).run Try.prog w' = .ok (.string ⟨yp.toArray⟩) w' ∧ (Instr.loadAt 9 (.pointer (some ⟨b5, 2, none⟩))).run Try.prog w' = .ok (.string ⟨ydat.toArray⟩) w')) (by kernel_rfl) ⟨atV hE3.drew 0 rfl (by simp [go_sem]) rfl, atV hE3.drew 0 rfl (by simp [go_sem]) rfl⟩ (fun hS => ?_)
        refine wpAnyH_take (i := 0) (oi := { dst := some 40, op := Go.Op.move (Go.Operand.tmp 3), type := 9, pos := "ref.go:56", after := #[], guard := none }) (v := ?_) rfl (by kernel_rfl) (by kernel_rfl) (by kernel_rfl) (fun _ _ _ h => h) (Or.inl ⟨by rfl, ?_⟩) hS ?_
        rotate_left
        · (intro w hSw; (try dsimp only at hSw); go_simp; (try with_reducible rfl))
        try simp only [Act.put, List.setIfInBounds_toArray, List.set_cons_zero, List.set_cons_succ]
        refine wpAnyH_take (i := 1) (oi := { dst := some 41, op := Go.Op.fieldAddr 86 (Go.Operand.tmp 5) 0, type := 0, pos := "ref.go:56", after := #[], guard := none }) (v := ?_) rfl (by kernel_rfl) (by kernel_rfl) (by kernel_rfl) (fun _ _ _ h => h) (Or.inl ⟨by rfl, ?_⟩) hS ?_
        rotate_left
        · (intro w hSw; (try dsimp only at hSw); go_simp; (try with_reducible rfl))
        try simp only [Act.put, List.setIfInBounds_toArray, List.set_cons_zero, List.set_cons_succ]
        refine wpAnyH_take (i := 2) (oi := { dst := some 42, op := Go.Op.load 9 (Go.Operand.tmp 41), type := 9, pos := "ref.go:56", after := #[{ on := 1, ground := Go.Ground.data }], guard := none }) (v := ?_) rfl (by kernel_rfl) (by kernel_rfl) (by kernel_rfl) (fun _ _ _ h => h) (Or.inl ⟨by rfl, ?_⟩) hS ?_
        rotate_left
        · (intro w hSw; (try dsimp only at hSw); go_simp; (try with_reducible rfl))
        try simp only [Act.put, List.setIfInBounds_toArray, List.set_cons_zero, List.set_cons_succ]
        refine wpAnyH_take (i := 5) (oi := { dst := some 45, op := Go.Op.move (Go.Operand.tmp 6), type := 91, pos := "ref.go:56", after := #[], guard := none }) (v := ?_) rfl (by kernel_rfl) (by kernel_rfl) (by kernel_rfl) (fun _ _ _ h => h) (Or.inl ⟨by rfl, ?_⟩) hS ?_
        rotate_left
        · (intro w hSw; (try dsimp only at hSw); go_simp; (try with_reducible rfl))
        try simp only [Act.put, List.setIfInBounds_toArray, List.set_cons_zero, List.set_cons_succ]
        refine wpAnyH_take (i := 8) (oi := { dst := some 48, op := Go.Op.fieldAddr 86 (Go.Operand.tmp 5) 2, type := 0, pos := "ref.go:56", after := #[], guard := none }) (v := ?_) rfl (by kernel_rfl) (by kernel_rfl) (by kernel_rfl) (fun _ _ _ h => h) (Or.inl ⟨by rfl, ?_⟩) hS ?_
        rotate_left
        · (intro w hSw; (try dsimp only at hSw); go_simp; (try with_reducible rfl))
        try simp only [Act.put, List.setIfInBounds_toArray, List.set_cons_zero, List.set_cons_succ]
        refine wpAnyH_take (i := 9) (oi := { dst := some 49, op := Go.Op.load 9 (Go.Operand.tmp 48), type := 9, pos := "ref.go:56", after := #[{ on := 8, ground := Go.Ground.data }], guard := none }) (v := ?_) rfl (by kernel_rfl) (by kernel_rfl) (by kernel_rfl) (fun _ _ _ h => h) (Or.inl ⟨by rfl, ?_⟩) hS ?_
        rotate_left
        · (intro w hSw; (try dsimp only at hSw); go_simp; (try with_reducible rfl))
        try simp only [Act.put, List.setIfInBounds_toArray, List.set_cons_zero, List.set_cons_succ]
        refine wpAnyH_take (i := 10) (oi := { dst := some 50, op := Go.Op.call { callee := Go.Callee.builtin Go.Builtin.len, args := #[Go.Operand.tmp 49], argTypes := #[9] }, type := 3, pos := "ref.go:56", after := #[{ on := 9, ground := Go.Ground.data }], guard := none }) (v := ?_) rfl (by kernel_rfl) (by kernel_rfl) (by kernel_rfl) (fun _ _ _ h => h) (Or.inl ⟨by rfl, ?_⟩) hS ?_
        rotate_left
        · (intro w hSw; (try dsimp only at hSw); go_simp; (try with_reducible rfl))
        try simp only [Act.put, List.setIfInBounds_toArray, List.set_cons_zero, List.set_cons_succ]
        refine wpAnyH_take (i := 11) (oi := { dst := some 51, op := Go.Op.convert 3 91 (Go.Operand.tmp 50), type := 91, pos := "ref.go:56", after := #[{ on := 10, ground := Go.Ground.data }], guard := none }) (v := ?_) rfl (by kernel_rfl) (by kernel_rfl) (by kernel_rfl) (fun _ _ _ h => h) (Or.inl ⟨by rfl, ?_⟩) hS ?_
        rotate_left
        · (intro w hSw; (try dsimp only at hSw); go_simp; (try with_reducible rfl))
        try simp only [Act.put, List.setIfInBounds_toArray, List.set_cons_zero, List.set_cons_succ]
        refine wpAnyH_take (i := 14) (oi := { dst := some 54, op := Go.Op.fieldAddr 86 (Go.Operand.tmp 5) 2, type := 0, pos := "ref.go:56", after := #[], guard := none }) (v := ?_) rfl (by kernel_rfl) (by kernel_rfl) (by kernel_rfl) (fun _ _ _ h => h) (Or.inl ⟨by rfl, ?_⟩) hS ?_
        rotate_left
        · (intro w hSw; (try dsimp only at hSw); go_simp; (try with_reducible rfl))
        try simp only [Act.put, List.setIfInBounds_toArray, List.set_cons_zero, List.set_cons_succ]
        refine wpAnyH_take (i := 15) (oi := { dst := some 55, op := Go.Op.load 9 (Go.Operand.tmp 54), type := 9, pos := "ref.go:56", after := #[{ on := 14, ground := Go.Ground.data }], guard := none }) (v := ?_) rfl (by kernel_rfl) (by kernel_rfl) (by kernel_rfl) (fun _ _ _ h => h) (Or.inl ⟨by rfl, ?_⟩) hS ?_
        rotate_left
        · (intro w hSw; (try dsimp only at hSw); go_simp; (try with_reducible rfl))
        try simp only [Act.put, List.setIfInBounds_toArray, List.set_cons_zero, List.set_cons_succ]
        refine wpAnyH_ready (rs := [3]) (by kernel_rfl) (by simp) ?_
        refine (AllReadyH.cons (o := { dst := some 43, op := Go.Op.call { callee := Go.Callee.value (Go.Operand.func 90), args := #[Go.Operand.tmp 42], argTypes := #[9] }, type := 9, pos := "ref.go:56", after := #[{ on := 2, ground := Go.Ground.data }], guard := none }) rfl (fun K hK => ?_) AllReadyH.nil)
        (go_simp; refine (hC4 hE3.drew).mono ?_; rintro e w4 ⟨v, rfl, rfl, hE4⟩)
        refine hK.out _ _ ⟨atV hE4 0 rfl (by simp [go_sem]) rfl, atV hE4 0 rfl (by simp [go_sem]) rfl⟩ (fun hS => ?_)
        clear hK K
        try simp only [Act.put, List.setIfInBounds_toArray, List.set_cons_zero, List.set_cons_succ]
        refine wpAnyH_take (i := 4) (oi := { dst := some 44, op := Go.Op.binOp Go.BinOp.add 9 (Go.Operand.tmp 40) (Go.Operand.tmp 43) 9, type := 9, pos := "ref.go:56", after := #[{ on := 0, ground := Go.Ground.data }, { on := 3, ground := Go.Ground.data }], guard := none }) (v := ?_) rfl (by kernel_rfl) (by kernel_rfl) (by kernel_rfl) (fun _ _ _ h => h) (Or.inl ⟨by rfl, ?_⟩) hS ?_
        rotate_left
        · (intro w hSw; (try dsimp only at hSw); go_simp; (try with_reducible rfl))
        try simp only [Act.put, List.setIfInBounds_toArray, List.set_cons_zero, List.set_cons_succ]
        refine wpAnyH_ready (rs := [6]) (by kernel_rfl) (by simp) ?_
        refine (AllReadyH.cons (o := { dst := some 46, op := Go.Op.call { callee := Go.Callee.value (Go.Operand.func 89), args := #[Go.Operand.const (Go.Value.int Go.IntKind.i64 1), Go.Operand.tmp 45], argTypes := #[3, 91] }, type := 9, pos := "ref.go:56", after := #[{ on := 5, ground := Go.Ground.data }, { on := 3, ground := Go.Ground.chain }], guard := none }) rfl (fun K hK => ?_) AllReadyH.nil)
        (go_simp; refine (hC5 hE4).mono ?_; rintro e w5 ⟨v, rfl, rfl, hE5⟩)
        refine hK.out _ _ ⟨atV hE5 0 rfl (by simp [go_sem]) rfl, atV hE5 0 rfl (by simp [go_sem]) rfl⟩ (fun hS => ?_)
        clear hK K
        try simp only [Act.put, List.setIfInBounds_toArray, List.set_cons_zero, List.set_cons_succ]
        refine wpAnyH_take (i := 7) (oi := { dst := some 47, op := Go.Op.binOp Go.BinOp.add 9 (Go.Operand.tmp 44) (Go.Operand.tmp 46) 9, type := 9, pos := "ref.go:56", after := #[{ on := 4, ground := Go.Ground.data }, { on := 6, ground := Go.Ground.data }], guard := none }) (v := ?_) rfl (by kernel_rfl) (by kernel_rfl) (by kernel_rfl) (fun _ _ _ h => h) (Or.inl ⟨by rfl, ?_⟩) hS ?_
        rotate_left
        · (intro w hSw; (try dsimp only at hSw); go_simp; (try with_reducible rfl))
        try simp only [Act.put, List.setIfInBounds_toArray, List.set_cons_zero, List.set_cons_succ]
        refine wpAnyH_ready (rs := [12]) (by kernel_rfl) (by simp) ?_
        refine (AllReadyH.cons (o := { dst := some 52, op := Go.Op.call { callee := Go.Callee.value (Go.Operand.func 89), args := #[Go.Operand.const (Go.Value.int Go.IntKind.i64 2), Go.Operand.tmp 51], argTypes := #[3, 91] }, type := 9, pos := "ref.go:56", after := #[{ on := 11, ground := Go.Ground.data }, { on := 6, ground := Go.Ground.chain }], guard := none }) rfl (fun K hK => ?_) AllReadyH.nil)
        (go_simp; refine (hC6 hE5).mono ?_; rintro e w6 ⟨v, rfl, rfl, hE6⟩)
        refine hK.out _ _ ⟨atV hE6 0 rfl (by simp [go_sem]) rfl, atV hE6 0 rfl (by simp [go_sem]) rfl⟩ (fun hS => ?_)
        clear hK K
        try simp only [Act.put, List.setIfInBounds_toArray, List.set_cons_zero, List.set_cons_succ]
        refine wpAnyH_take (i := 13) (oi := { dst := some 53, op := Go.Op.binOp Go.BinOp.add 9 (Go.Operand.tmp 47) (Go.Operand.tmp 52) 9, type := 9, pos := "ref.go:56", after := #[{ on := 7, ground := Go.Ground.data }, { on := 12, ground := Go.Ground.data }], guard := none }) (v := ?_) rfl (by kernel_rfl) (by kernel_rfl) (by kernel_rfl) (fun _ _ _ h => h) (Or.inl ⟨by rfl, ?_⟩) hS ?_
        rotate_left
        · (intro w hSw; (try dsimp only at hSw); go_simp; (try with_reducible rfl))
        try simp only [Act.put, List.setIfInBounds_toArray, List.set_cons_zero, List.set_cons_succ]
        refine wpAnyH_take (i := 16) (oi := { dst := some 56, op := Go.Op.binOp Go.BinOp.add 9 (Go.Operand.tmp 53) (Go.Operand.tmp 55) 9, type := 9, pos := "ref.go:56", after := #[{ on := 13, ground := Go.Ground.data }, { on := 15, ground := Go.Ground.data }], guard := none }) (v := ?_) rfl (by kernel_rfl) (by kernel_rfl) (by kernel_rfl) (fun _ _ _ h => h) (Or.inl ⟨by rfl, ?_⟩) hS ?_
        rotate_left
        · (intro w hSw; (try dsimp only at hSw); go_simp; (try with_reducible rfl))
        try simp only [Act.put, List.setIfInBounds_toArray, List.set_cons_zero, List.set_cons_succ]
        refine wpAnyH_take (i := 17) (oi := { dst := some 3, op := Go.Op.assign (Go.Operand.tmp 56), type := 9, pos := "ref.go:56", after := #[{ on := 16, ground := Go.Ground.data }, { on := 12, ground := Go.Ground.chain }, { on := 0, ground := Go.Ground.phase }, { on := 1, ground := Go.Ground.phase }, { on := 2, ground := Go.Ground.phase }, { on := 3, ground := Go.Ground.phase }, { on := 4, ground := Go.Ground.phase }, { on := 5, ground := Go.Ground.phase }, { on := 6, ground := Go.Ground.phase }, { on := 7, ground := Go.Ground.phase }, { on := 8, ground := Go.Ground.phase }, { on := 9, ground := Go.Ground.phase }, { on := 10, ground := Go.Ground.phase }, { on := 11, ground := Go.Ground.phase }, { on := 12, ground := Go.Ground.phase }, { on := 13, ground := Go.Ground.phase }, { on := 14, ground := Go.Ground.phase }, { on := 15, ground := Go.Ground.phase }, { on := 16, ground := Go.Ground.phase }], guard := none }) (v := ?_) rfl (by kernel_rfl) (by kernel_rfl) (by kernel_rfl) (fun _ _ _ h => h) (Or.inl ⟨by rfl, ?_⟩) hS ?_
        rotate_left
        · (intro w hSw; (try dsimp only at hSw); go_simp; (try with_reducible rfl))
        try simp only [Act.put, List.setIfInBounds_toArray, List.set_cons_zero, List.set_cons_succ]
        refine wpAnyH_done (by kernel_rfl) ?_ _
        go_wp2
        go_roundw
        case rel => exact ⟨k + 1, hlt, by simp, by rw [Hs2.out, E7.out, E6.out, E5.out, E4.out, Hy4.out, Hy5.out, Hy6.out]; simp [teB], hE6.tail⟩
        case measure => simp [intOf]; omega
    · have E3 : tree.take k = tree := by rw [show k = tree.length by omega, List.take_length]
      rw [E3]
      clear E3
      have Hr := SL.hid (show entB ⟨0, name, path, tree, acts, keep⟩ = p1 ++ tree.flatMap teB by rw [R.out, E1.out, E0.out, Hy0.out, Hy1.out, Hy2.out])
      generalize p1 ++ tree.flatMap teB = pr at *
      go_wp2_with (first
        | go_skip
        | ((with_reducible (show Go.wpList _ _ _ (Go.Oper.mk _ (.load _ _) _ _ _ _ :: _) _ _)); first | (refine wpl_load1 hE 0 rfl rfl rfl rfl (by simp [go_sem]) rfl ?_) | (refine wpl_load1 hE 1 rfl rfl rfl rfl (by simp [go_sem]) rfl ?_) | (refine wpl_load1 hE 2 rfl rfl rfl rfl (by simp [go_sem]) rfl ?_) | (refine wpl_load1 hE 3 rfl rfl rfl rfl (by simp [go_sem]) rfl ?_) | (refine wpl_load1 hE 4 rfl rfl rfl rfl (by simp [go_sem]) rfl ?_) | (refine wpl_load1 hE 5 rfl rfl rfl rfl (by simp [go_sem]) rfl ?_)))
      go_ret
      exact ⟨_, rfl, by rw [Hr.out]; rfl, hE.tail⟩

set_option maxRecDepth 100000 in
set_option maxHeartbeats 2000000 in
attribute [-go_sem] Instr.loadAt in
theorem by27_1 {name path keep : List UInt8} {tree : List TE} {acts : Nat} {ao : Option Addr} {c : Nat} (s1 : name.length ≤ 255) (s2 : path.length ≤ 255) (s3 : keep.length ≤ 255) (s4 : tree.length ≤ 255) (s5 : acts < 65536) (ht : tree.all teOk = true) {l : List HProp} {w : World} (hE : Ent l w)
    (hk : Knows l (reads (.slice ao tree.length c) tree.length (treeCells tree))) :
    Calls Try.prog 50 #[.agg #[.int .u8 1, .string ⟨name.toArray⟩, .string ⟨path.toArray⟩, .slice ao tree.length c, .int .u16 acts, .string ⟨keep.toArray⟩]] w (Ret fun v w' => v = .string ⟨(entB ⟨1, name, path, tree, acts, keep⟩).toArray⟩ ∧ Ent l w') := by
  have Ht := SL.hid ht
  clear ht
  have R := SL.hid (show entB ⟨1, name, path, tree, acts, keep⟩ = [1] ++ nmB name by simp [entB, bodyE, treeB, hasName, hasPath, hasTree, hasActs, hasKeep])
  obtain ⟨y0, e0⟩ : ∃ y, y = ([1] : List UInt8) := ⟨_, rfl⟩
  have hC0 : ∀ {l : List HProp} {w : World}, Ent l w → Calls Try.prog 89 #[.int .i64 1, .int .u64 1] w (Ret fun v w' => v = .string ⟨y0.toArray⟩ ∧ Ent l w') := fun h => by subst e0; exact num27_1 (n := 1) (by omega) h
  have Hl0 := SL.hid (show y0.length ≤ 1 by rw [e0]; simp)
  have Hy0 := SL.hid e0
  clear e0
  obtain ⟨y1, e1⟩ : ∃ y, y = nmB name := ⟨_, rfl⟩
  have hC1 : ∀ {l : List HProp} {w : World}, Ent l w → Calls Try.prog 90 #[.string ⟨name.toArray⟩] w (Ret fun v w' => v = .string ⟨y1.toArray⟩ ∧ Ent l w') := fun h => by subst e1; exact name27 s1 h
  have Hl1 := SL.hid (show y1.length ≤ 256 by rw [e1]; simp [nmB]; omega)
  have Hy1 := SL.hid e1
  clear e1
  obtain ⟨p0, q0, j0, c0⟩ := cat2 y0 y1 (by have := Hl0.out; have := Hl1.out; omega)
  have E0 := SL.hid q0
  clear q0
  go_enter Try.func50, Try.ntmps50
  go_wp2_with (first
    | go_skip
    | ((with_reducible (show Go.wpList _ _ _ (Go.Oper.mk _ (.box _ _) _ _ _ _ :: _) _ _)); refine wpl_box hE rfl rfl rfl ?_; clear hE; intro b1 w hE; simp only [Act.eval, Act.put, List.setIfInBounds_toArray, List.set_cons_zero, List.set_cons_succ, getD_lit, List.getD_cons_succ, List.getD_cons_zero, Value.cells] at hE)
    | (go_at_call 89; refine (hC0 hE).mono ?_; clear hE; rintro e w2 ⟨v, rfl, rfl, hE⟩)
    | (go_at_call 90; refine (hC1 hE).mono ?_; clear hE; rintro e w2 ⟨v, rfl, rfl, hE⟩)
    | ((with_reducible (show Go.wpList _ _ _ (Go.Oper.mk _ (.load _ _) _ _ _ _ :: _) _ _)); first | (refine wpl_load1 hE 0 rfl rfl rfl rfl (by simp [go_sem]) rfl ?_) | (refine wpl_load1 hE 1 rfl rfl rfl rfl (by simp [go_sem]) rfl ?_) | (refine wpl_load1 hE 2 rfl rfl rfl rfl (by simp [go_sem]) rfl ?_) | (refine wpl_load1 hE 3 rfl rfl rfl rfl (by simp [go_sem]) rfl ?_) | (refine wpl_load1 hE 4 rfl rfl rfl rfl (by simp [go_sem]) rfl ?_) | (refine wpl_load1 hE 5 rfl rfl rfl rfl (by simp [go_sem]) rfl ?_)))
  go_ret
  exact ⟨_, rfl, by rw [R.out, ← Hy0.out, ← Hy1.out, ← E0.out]; rfl, hE.tail⟩

set_option maxRecDepth 100000 in
set_option maxHeartbeats 2000000 in
attribute [-go_sem] Instr.loadAt in
theorem by27_2 {name path keep : List UInt8} {tree : List TE} {acts : Nat} {ao : Option Addr} {c : Nat} (s1 : name.length ≤ 255) (s2 : path.length ≤ 255) (s3 : keep.length ≤ 255) (s4 : tree.length ≤ 255) (s5 : acts < 65536) (ht : tree.all teOk = true) {l : List HProp} {w : World} (hE : Ent l w)
    (hk : Knows l (reads (.slice ao tree.length c) tree.length (treeCells tree))) :
    Calls Try.prog 50 #[.agg #[.int .u8 2, .string ⟨name.toArray⟩, .string ⟨path.toArray⟩, .slice ao tree.length c, .int .u16 acts, .string ⟨keep.toArray⟩]] w (Ret fun v w' => v = .string ⟨(entB ⟨2, name, path, tree, acts, keep⟩).toArray⟩ ∧ Ent l w') := by
  have Ht := SL.hid ht
  clear ht
  have R := SL.hid (show entB ⟨2, name, path, tree, acts, keep⟩ = [2] ++ nmB name ++ nmB path by simp [entB, bodyE, treeB, hasName, hasPath, hasTree, hasActs, hasKeep])
  obtain ⟨y0, e0⟩ : ∃ y, y = ([2] : List UInt8) := ⟨_, rfl⟩
  have hC0 : ∀ {l : List HProp} {w : World}, Ent l w → Calls Try.prog 89 #[.int .i64 1, .int .u64 2] w (Ret fun v w' => v = .string ⟨y0.toArray⟩ ∧ Ent l w') := fun h => by subst e0; exact num27_1 (n := 2) (by omega) h
  have Hl0 := SL.hid (show y0.length ≤ 1 by rw [e0]; simp)
  have Hy0 := SL.hid e0
  clear e0
  obtain ⟨y1, e1⟩ : ∃ y, y = nmB name := ⟨_, rfl⟩
  have hC1 : ∀ {l : List HProp} {w : World}, Ent l w → Calls Try.prog 90 #[.string ⟨name.toArray⟩] w (Ret fun v w' => v = .string ⟨y1.toArray⟩ ∧ Ent l w') := fun h => by subst e1; exact name27 s1 h
  have Hl1 := SL.hid (show y1.length ≤ 256 by rw [e1]; simp [nmB]; omega)
  have Hy1 := SL.hid e1
  clear e1
  obtain ⟨p0, q0, j0, c0⟩ := cat2 y0 y1 (by have := Hl0.out; have := Hl1.out; omega)
  have E0 := SL.hid q0
  clear q0
  obtain ⟨y2, e2⟩ : ∃ y, y = nmB path := ⟨_, rfl⟩
  have hC2 : ∀ {l : List HProp} {w : World}, Ent l w → Calls Try.prog 90 #[.string ⟨path.toArray⟩] w (Ret fun v w' => v = .string ⟨y2.toArray⟩ ∧ Ent l w') := fun h => by subst e2; exact name27 s2 h
  have Hl2 := SL.hid (show y2.length ≤ 256 by rw [e2]; simp [nmB]; omega)
  have Hy2 := SL.hid e2
  clear e2
  obtain ⟨p1, q1, j1, c1⟩ := cat2 p0 y2 (by have := Hl0.out; have := Hl1.out; have := Hl2.out; rw [E0.out, List.length_append]; omega)
  have E1 := SL.hid q1
  clear q1
  go_enter Try.func50, Try.ntmps50
  go_wp2_with (first
    | go_skip
    | ((with_reducible (show Go.wpList _ _ _ (Go.Oper.mk _ (.box _ _) _ _ _ _ :: _) _ _)); refine wpl_box hE rfl rfl rfl ?_; clear hE; intro b1 w hE; simp only [Act.eval, Act.put, List.setIfInBounds_toArray, List.set_cons_zero, List.set_cons_succ, getD_lit, List.getD_cons_succ, List.getD_cons_zero, Value.cells] at hE)
    | (go_at_call 89; refine (hC0 hE).mono ?_; clear hE; rintro e w2 ⟨v, rfl, rfl, hE⟩)
    | ((with_reducible (show Go.wpList _ _ _ (Go.Oper.mk _ (.load _ _) _ _ _ _ :: _) _ _)); first | (refine wpl_load1 hE 0 rfl rfl rfl rfl (by simp [go_sem]) rfl ?_) | (refine wpl_load1 hE 1 rfl rfl rfl rfl (by simp [go_sem]) rfl ?_) | (refine wpl_load1 hE 2 rfl rfl rfl rfl (by simp [go_sem]) rfl ?_) | (refine wpl_load1 hE 3 rfl rfl rfl rfl (by simp [go_sem]) rfl ?_) | (refine wpl_load1 hE 4 rfl rfl rfl rfl (by simp [go_sem]) rfl ?_) | (refine wpl_load1 hE 5 rfl rfl rfl rfl (by simp [go_sem]) rfl ?_)))
  refine wp_region_held_drew (S := (fun w' => (Instr.loadAt 9 (.pointer (some ⟨b1, 1, none⟩))).run Try.prog w' = .ok (.string ⟨name.toArray⟩) w' ∧ (Instr.loadAt 9 (.pointer (some ⟨b1, 2, none⟩))).run Try.prog w' = .ok (.string ⟨path.toArray⟩) w')) (by kernel_rfl) ⟨atV hE.drew 0 rfl (by simp [go_sem]) rfl, atV hE.drew 0 rfl (by simp [go_sem]) rfl⟩ (fun hS => ?_)
  refine wpAnyH_take (i := 0) (oi := { dst := some 67, op := Go.Op.move (Go.Operand.tmp 3), type := 9, pos := "ref.go:61", after := #[], guard := none }) (v := ?_) rfl (by kernel_rfl) (by kernel_rfl) (by kernel_rfl) (fun _ _ _ h => h) (Or.inl ⟨by rfl, ?_⟩) hS ?_
  rotate_left
  · (intro w hSw; (try dsimp only at hSw); go_simp; (try with_reducible rfl))
  try simp only [Act.put, List.setIfInBounds_toArray, List.set_cons_zero, List.set_cons_succ]
  refine wpAnyH_take (i := 1) (oi := { dst := some 68, op := Go.Op.fieldAddr 84 (Go.Operand.tmp 1) 1, type := 0, pos := "ref.go:61", after := #[], guard := none }) (v := ?_) rfl (by kernel_rfl) (by kernel_rfl) (by kernel_rfl) (fun _ _ _ h => h) (Or.inl ⟨by rfl, ?_⟩) hS ?_
  rotate_left
  · (intro w hSw; (try dsimp only at hSw); go_simp; (try with_reducible rfl))
  try simp only [Act.put, List.setIfInBounds_toArray, List.set_cons_zero, List.set_cons_succ]
  refine wpAnyH_take (i := 2) (oi := { dst := some 69, op := Go.Op.load 9 (Go.Operand.tmp 68), type := 9, pos := "ref.go:61", after := #[{ on := 1, ground := Go.Ground.data }], guard := none }) (v := ?_) rfl (by kernel_rfl) (by kernel_rfl) (by kernel_rfl) (fun _ _ _ h => h) (Or.inl ⟨by rfl, ?_⟩) hS ?_
  rotate_left
  · (intro w hSw; (try dsimp only at hSw); go_simp; (try with_reducible rfl))
  try simp only [Act.put, List.setIfInBounds_toArray, List.set_cons_zero, List.set_cons_succ]
  refine wpAnyH_take (i := 5) (oi := { dst := some 72, op := Go.Op.fieldAddr 84 (Go.Operand.tmp 1) 2, type := 0, pos := "ref.go:61", after := #[], guard := none }) (v := ?_) rfl (by kernel_rfl) (by kernel_rfl) (by kernel_rfl) (fun _ _ _ h => h) (Or.inl ⟨by rfl, ?_⟩) hS ?_
  rotate_left
  · (intro w hSw; (try dsimp only at hSw); go_simp; (try with_reducible rfl))
  try simp only [Act.put, List.setIfInBounds_toArray, List.set_cons_zero, List.set_cons_succ]
  refine wpAnyH_take (i := 6) (oi := { dst := some 73, op := Go.Op.load 9 (Go.Operand.tmp 72), type := 9, pos := "ref.go:61", after := #[{ on := 5, ground := Go.Ground.data }], guard := none }) (v := ?_) rfl (by kernel_rfl) (by kernel_rfl) (by kernel_rfl) (fun _ _ _ h => h) (Or.inl ⟨by rfl, ?_⟩) hS ?_
  rotate_left
  · (intro w hSw; (try dsimp only at hSw); go_simp; (try with_reducible rfl))
  try simp only [Act.put, List.setIfInBounds_toArray, List.set_cons_zero, List.set_cons_succ]
  refine wpAnyH_ready (rs := [3]) (by kernel_rfl) (by simp) ?_
  refine (AllReadyH.cons (o := { dst := some 70, op := Go.Op.call { callee := Go.Callee.value (Go.Operand.func 90), args := #[Go.Operand.tmp 69], argTypes := #[9] }, type := 9, pos := "ref.go:61", after := #[{ on := 2, ground := Go.Ground.data }], guard := none }) rfl (fun K hK => ?_) AllReadyH.nil)
  (go_simp; refine (hC1 hE.drew).mono ?_; rintro e w3 ⟨v, rfl, rfl, hE3⟩)
  refine hK.out _ _ ⟨atV hE3 0 rfl (by simp [go_sem]) rfl, atV hE3 0 rfl (by simp [go_sem]) rfl⟩ (fun hS => ?_)
  clear hK K
  try simp only [Act.put, List.setIfInBounds_toArray, List.set_cons_zero, List.set_cons_succ]
  refine wpAnyH_take (i := 4) (oi := { dst := some 71, op := Go.Op.binOp Go.BinOp.add 9 (Go.Operand.tmp 67) (Go.Operand.tmp 70) 9, type := 9, pos := "ref.go:61", after := #[{ on := 0, ground := Go.Ground.data }, { on := 3, ground := Go.Ground.data }], guard := none }) (v := ?_) rfl (by kernel_rfl) (by kernel_rfl) (by kernel_rfl) (fun _ _ _ h => h) (Or.inl ⟨by rfl, ?_⟩) hS ?_
  rotate_left
  · (intro w hSw; (try dsimp only at hSw); go_simp; (try with_reducible rfl))
  try simp only [Act.put, List.setIfInBounds_toArray, List.set_cons_zero, List.set_cons_succ]
  refine wpAnyH_ready (rs := [7]) (by kernel_rfl) (by simp) ?_
  refine (AllReadyH.cons (o := { dst := some 74, op := Go.Op.call { callee := Go.Callee.value (Go.Operand.func 90), args := #[Go.Operand.tmp 73], argTypes := #[9] }, type := 9, pos := "ref.go:61", after := #[{ on := 6, ground := Go.Ground.data }, { on := 3, ground := Go.Ground.chain }], guard := none }) rfl (fun K hK => ?_) AllReadyH.nil)
  (go_simp; refine (hC2 hE3).mono ?_; rintro e w4 ⟨v, rfl, rfl, hE4⟩)
  refine hK.out _ _ ⟨atV hE4 0 rfl (by simp [go_sem]) rfl, atV hE4 0 rfl (by simp [go_sem]) rfl⟩ (fun hS => ?_)
  clear hK K
  try simp only [Act.put, List.setIfInBounds_toArray, List.set_cons_zero, List.set_cons_succ]
  refine wpAnyH_take (i := 8) (oi := { dst := some 75, op := Go.Op.binOp Go.BinOp.add 9 (Go.Operand.tmp 71) (Go.Operand.tmp 74) 9, type := 9, pos := "ref.go:61", after := #[{ on := 4, ground := Go.Ground.data }, { on := 7, ground := Go.Ground.data }], guard := none }) (v := ?_) rfl (by kernel_rfl) (by kernel_rfl) (by kernel_rfl) (fun _ _ _ h => h) (Or.inl ⟨by rfl, ?_⟩) hS ?_
  rotate_left
  · (intro w hSw; (try dsimp only at hSw); go_simp; (try with_reducible rfl))
  try simp only [Act.put, List.setIfInBounds_toArray, List.set_cons_zero, List.set_cons_succ]
  refine wpAnyH_take (i := 9) (oi := { dst := some 3, op := Go.Op.assign (Go.Operand.tmp 75), type := 9, pos := "ref.go:61", after := #[{ on := 8, ground := Go.Ground.data }, { on := 7, ground := Go.Ground.chain }, { on := 0, ground := Go.Ground.phase }, { on := 1, ground := Go.Ground.phase }, { on := 2, ground := Go.Ground.phase }, { on := 3, ground := Go.Ground.phase }, { on := 4, ground := Go.Ground.phase }, { on := 5, ground := Go.Ground.phase }, { on := 6, ground := Go.Ground.phase }, { on := 7, ground := Go.Ground.phase }, { on := 8, ground := Go.Ground.phase }], guard := none }) (v := ?_) rfl (by kernel_rfl) (by kernel_rfl) (by kernel_rfl) (fun _ _ _ h => h) (Or.inl ⟨by rfl, ?_⟩) hS ?_
  rotate_left
  · (intro w hSw; (try dsimp only at hSw); go_simp; (try with_reducible rfl))
  try simp only [Act.put, List.setIfInBounds_toArray, List.set_cons_zero, List.set_cons_succ]
  refine wpAnyH_done (by kernel_rfl) ?_ _
  go_wp2
  go_ret
  exact ⟨_, rfl, by rw [R.out, ← Hy0.out, ← Hy1.out, ← Hy2.out, ← E0.out, ← E1.out]; rfl, hE4.tail⟩

set_option maxRecDepth 100000 in
set_option maxHeartbeats 2000000 in
attribute [-go_sem] Instr.loadAt in
theorem by27_3 {name path keep : List UInt8} {tree : List TE} {acts : Nat} {ao : Option Addr} {c : Nat} (s1 : name.length ≤ 255) (s2 : path.length ≤ 255) (s3 : keep.length ≤ 255) (s4 : tree.length ≤ 255) (s5 : acts < 65536) (ht : tree.all teOk = true) {l : List HProp} {w : World} (hE : Ent l w)
    (hk : Knows l (reads (.slice ao tree.length c) tree.length (treeCells tree))) :
    Calls Try.prog 50 #[.agg #[.int .u8 3, .string ⟨name.toArray⟩, .string ⟨path.toArray⟩, .slice ao tree.length c, .int .u16 acts, .string ⟨keep.toArray⟩]] w (Ret fun v w' => v = .string ⟨(entB ⟨3, name, path, tree, acts, keep⟩).toArray⟩ ∧ Ent l w') := by
  have Ht := SL.hid ht
  clear ht
  have R := SL.hid (show entB ⟨3, name, path, tree, acts, keep⟩ = [3] ++ nmB name ++ nmB path by simp [entB, bodyE, treeB, hasName, hasPath, hasTree, hasActs, hasKeep])
  obtain ⟨y0, e0⟩ : ∃ y, y = ([3] : List UInt8) := ⟨_, rfl⟩
  have hC0 : ∀ {l : List HProp} {w : World}, Ent l w → Calls Try.prog 89 #[.int .i64 1, .int .u64 3] w (Ret fun v w' => v = .string ⟨y0.toArray⟩ ∧ Ent l w') := fun h => by subst e0; exact num27_1 (n := 3) (by omega) h
  have Hl0 := SL.hid (show y0.length ≤ 1 by rw [e0]; simp)
  have Hy0 := SL.hid e0
  clear e0
  obtain ⟨y1, e1⟩ : ∃ y, y = nmB name := ⟨_, rfl⟩
  have hC1 : ∀ {l : List HProp} {w : World}, Ent l w → Calls Try.prog 90 #[.string ⟨name.toArray⟩] w (Ret fun v w' => v = .string ⟨y1.toArray⟩ ∧ Ent l w') := fun h => by subst e1; exact name27 s1 h
  have Hl1 := SL.hid (show y1.length ≤ 256 by rw [e1]; simp [nmB]; omega)
  have Hy1 := SL.hid e1
  clear e1
  obtain ⟨p0, q0, j0, c0⟩ := cat2 y0 y1 (by have := Hl0.out; have := Hl1.out; omega)
  have E0 := SL.hid q0
  clear q0
  obtain ⟨y2, e2⟩ : ∃ y, y = nmB path := ⟨_, rfl⟩
  have hC2 : ∀ {l : List HProp} {w : World}, Ent l w → Calls Try.prog 90 #[.string ⟨path.toArray⟩] w (Ret fun v w' => v = .string ⟨y2.toArray⟩ ∧ Ent l w') := fun h => by subst e2; exact name27 s2 h
  have Hl2 := SL.hid (show y2.length ≤ 256 by rw [e2]; simp [nmB]; omega)
  have Hy2 := SL.hid e2
  clear e2
  obtain ⟨p1, q1, j1, c1⟩ := cat2 p0 y2 (by have := Hl0.out; have := Hl1.out; have := Hl2.out; rw [E0.out, List.length_append]; omega)
  have E1 := SL.hid q1
  clear q1
  go_enter Try.func50, Try.ntmps50
  go_wp2_with (first
    | go_skip
    | ((with_reducible (show Go.wpList _ _ _ (Go.Oper.mk _ (.box _ _) _ _ _ _ :: _) _ _)); refine wpl_box hE rfl rfl rfl ?_; clear hE; intro b1 w hE; simp only [Act.eval, Act.put, List.setIfInBounds_toArray, List.set_cons_zero, List.set_cons_succ, getD_lit, List.getD_cons_succ, List.getD_cons_zero, Value.cells] at hE)
    | (go_at_call 89; refine (hC0 hE).mono ?_; clear hE; rintro e w2 ⟨v, rfl, rfl, hE⟩)
    | ((with_reducible (show Go.wpList _ _ _ (Go.Oper.mk _ (.load _ _) _ _ _ _ :: _) _ _)); first | (refine wpl_load1 hE 0 rfl rfl rfl rfl (by simp [go_sem]) rfl ?_) | (refine wpl_load1 hE 1 rfl rfl rfl rfl (by simp [go_sem]) rfl ?_) | (refine wpl_load1 hE 2 rfl rfl rfl rfl (by simp [go_sem]) rfl ?_) | (refine wpl_load1 hE 3 rfl rfl rfl rfl (by simp [go_sem]) rfl ?_) | (refine wpl_load1 hE 4 rfl rfl rfl rfl (by simp [go_sem]) rfl ?_) | (refine wpl_load1 hE 5 rfl rfl rfl rfl (by simp [go_sem]) rfl ?_)))
  refine wp_region_held_drew (S := (fun w' => (Instr.loadAt 9 (.pointer (some ⟨b1, 1, none⟩))).run Try.prog w' = .ok (.string ⟨name.toArray⟩) w' ∧ (Instr.loadAt 9 (.pointer (some ⟨b1, 2, none⟩))).run Try.prog w' = .ok (.string ⟨path.toArray⟩) w')) (by kernel_rfl) ⟨atV hE.drew 0 rfl (by simp [go_sem]) rfl, atV hE.drew 0 rfl (by simp [go_sem]) rfl⟩ (fun hS => ?_)
  refine wpAnyH_take (i := 0) (oi := { dst := some 67, op := Go.Op.move (Go.Operand.tmp 3), type := 9, pos := "ref.go:61", after := #[], guard := none }) (v := ?_) rfl (by kernel_rfl) (by kernel_rfl) (by kernel_rfl) (fun _ _ _ h => h) (Or.inl ⟨by rfl, ?_⟩) hS ?_
  rotate_left
  · (intro w hSw; (try dsimp only at hSw); go_simp; (try with_reducible rfl))
  try simp only [Act.put, List.setIfInBounds_toArray, List.set_cons_zero, List.set_cons_succ]
  refine wpAnyH_take (i := 1) (oi := { dst := some 68, op := Go.Op.fieldAddr 84 (Go.Operand.tmp 1) 1, type := 0, pos := "ref.go:61", after := #[], guard := none }) (v := ?_) rfl (by kernel_rfl) (by kernel_rfl) (by kernel_rfl) (fun _ _ _ h => h) (Or.inl ⟨by rfl, ?_⟩) hS ?_
  rotate_left
  · (intro w hSw; (try dsimp only at hSw); go_simp; (try with_reducible rfl))
  try simp only [Act.put, List.setIfInBounds_toArray, List.set_cons_zero, List.set_cons_succ]
  refine wpAnyH_take (i := 2) (oi := { dst := some 69, op := Go.Op.load 9 (Go.Operand.tmp 68), type := 9, pos := "ref.go:61", after := #[{ on := 1, ground := Go.Ground.data }], guard := none }) (v := ?_) rfl (by kernel_rfl) (by kernel_rfl) (by kernel_rfl) (fun _ _ _ h => h) (Or.inl ⟨by rfl, ?_⟩) hS ?_
  rotate_left
  · (intro w hSw; (try dsimp only at hSw); go_simp; (try with_reducible rfl))
  try simp only [Act.put, List.setIfInBounds_toArray, List.set_cons_zero, List.set_cons_succ]
  refine wpAnyH_take (i := 5) (oi := { dst := some 72, op := Go.Op.fieldAddr 84 (Go.Operand.tmp 1) 2, type := 0, pos := "ref.go:61", after := #[], guard := none }) (v := ?_) rfl (by kernel_rfl) (by kernel_rfl) (by kernel_rfl) (fun _ _ _ h => h) (Or.inl ⟨by rfl, ?_⟩) hS ?_
  rotate_left
  · (intro w hSw; (try dsimp only at hSw); go_simp; (try with_reducible rfl))
  try simp only [Act.put, List.setIfInBounds_toArray, List.set_cons_zero, List.set_cons_succ]
  refine wpAnyH_take (i := 6) (oi := { dst := some 73, op := Go.Op.load 9 (Go.Operand.tmp 72), type := 9, pos := "ref.go:61", after := #[{ on := 5, ground := Go.Ground.data }], guard := none }) (v := ?_) rfl (by kernel_rfl) (by kernel_rfl) (by kernel_rfl) (fun _ _ _ h => h) (Or.inl ⟨by rfl, ?_⟩) hS ?_
  rotate_left
  · (intro w hSw; (try dsimp only at hSw); go_simp; (try with_reducible rfl))
  try simp only [Act.put, List.setIfInBounds_toArray, List.set_cons_zero, List.set_cons_succ]
  refine wpAnyH_ready (rs := [3]) (by kernel_rfl) (by simp) ?_
  refine (AllReadyH.cons (o := { dst := some 70, op := Go.Op.call { callee := Go.Callee.value (Go.Operand.func 90), args := #[Go.Operand.tmp 69], argTypes := #[9] }, type := 9, pos := "ref.go:61", after := #[{ on := 2, ground := Go.Ground.data }], guard := none }) rfl (fun K hK => ?_) AllReadyH.nil)
  (go_simp; refine (hC1 hE.drew).mono ?_; rintro e w3 ⟨v, rfl, rfl, hE3⟩)
  refine hK.out _ _ ⟨atV hE3 0 rfl (by simp [go_sem]) rfl, atV hE3 0 rfl (by simp [go_sem]) rfl⟩ (fun hS => ?_)
  clear hK K
  try simp only [Act.put, List.setIfInBounds_toArray, List.set_cons_zero, List.set_cons_succ]
  refine wpAnyH_take (i := 4) (oi := { dst := some 71, op := Go.Op.binOp Go.BinOp.add 9 (Go.Operand.tmp 67) (Go.Operand.tmp 70) 9, type := 9, pos := "ref.go:61", after := #[{ on := 0, ground := Go.Ground.data }, { on := 3, ground := Go.Ground.data }], guard := none }) (v := ?_) rfl (by kernel_rfl) (by kernel_rfl) (by kernel_rfl) (fun _ _ _ h => h) (Or.inl ⟨by rfl, ?_⟩) hS ?_
  rotate_left
  · (intro w hSw; (try dsimp only at hSw); go_simp; (try with_reducible rfl))
  try simp only [Act.put, List.setIfInBounds_toArray, List.set_cons_zero, List.set_cons_succ]
  refine wpAnyH_ready (rs := [7]) (by kernel_rfl) (by simp) ?_
  refine (AllReadyH.cons (o := { dst := some 74, op := Go.Op.call { callee := Go.Callee.value (Go.Operand.func 90), args := #[Go.Operand.tmp 73], argTypes := #[9] }, type := 9, pos := "ref.go:61", after := #[{ on := 6, ground := Go.Ground.data }, { on := 3, ground := Go.Ground.chain }], guard := none }) rfl (fun K hK => ?_) AllReadyH.nil)
  (go_simp; refine (hC2 hE3).mono ?_; rintro e w4 ⟨v, rfl, rfl, hE4⟩)
  refine hK.out _ _ ⟨atV hE4 0 rfl (by simp [go_sem]) rfl, atV hE4 0 rfl (by simp [go_sem]) rfl⟩ (fun hS => ?_)
  clear hK K
  try simp only [Act.put, List.setIfInBounds_toArray, List.set_cons_zero, List.set_cons_succ]
  refine wpAnyH_take (i := 8) (oi := { dst := some 75, op := Go.Op.binOp Go.BinOp.add 9 (Go.Operand.tmp 71) (Go.Operand.tmp 74) 9, type := 9, pos := "ref.go:61", after := #[{ on := 4, ground := Go.Ground.data }, { on := 7, ground := Go.Ground.data }], guard := none }) (v := ?_) rfl (by kernel_rfl) (by kernel_rfl) (by kernel_rfl) (fun _ _ _ h => h) (Or.inl ⟨by rfl, ?_⟩) hS ?_
  rotate_left
  · (intro w hSw; (try dsimp only at hSw); go_simp; (try with_reducible rfl))
  try simp only [Act.put, List.setIfInBounds_toArray, List.set_cons_zero, List.set_cons_succ]
  refine wpAnyH_take (i := 9) (oi := { dst := some 3, op := Go.Op.assign (Go.Operand.tmp 75), type := 9, pos := "ref.go:61", after := #[{ on := 8, ground := Go.Ground.data }, { on := 7, ground := Go.Ground.chain }, { on := 0, ground := Go.Ground.phase }, { on := 1, ground := Go.Ground.phase }, { on := 2, ground := Go.Ground.phase }, { on := 3, ground := Go.Ground.phase }, { on := 4, ground := Go.Ground.phase }, { on := 5, ground := Go.Ground.phase }, { on := 6, ground := Go.Ground.phase }, { on := 7, ground := Go.Ground.phase }, { on := 8, ground := Go.Ground.phase }], guard := none }) (v := ?_) rfl (by kernel_rfl) (by kernel_rfl) (by kernel_rfl) (fun _ _ _ h => h) (Or.inl ⟨by rfl, ?_⟩) hS ?_
  rotate_left
  · (intro w hSw; (try dsimp only at hSw); go_simp; (try with_reducible rfl))
  try simp only [Act.put, List.setIfInBounds_toArray, List.set_cons_zero, List.set_cons_succ]
  refine wpAnyH_done (by kernel_rfl) ?_ _
  go_wp2
  go_ret
  exact ⟨_, rfl, by rw [R.out, ← Hy0.out, ← Hy1.out, ← Hy2.out, ← E0.out, ← E1.out]; rfl, hE4.tail⟩

set_option maxRecDepth 100000 in
set_option maxHeartbeats 2000000 in
attribute [-go_sem] Instr.loadAt in
theorem by27_7 {name path keep : List UInt8} {tree : List TE} {acts : Nat} {ao : Option Addr} {c : Nat} (s1 : name.length ≤ 255) (s2 : path.length ≤ 255) (s3 : keep.length ≤ 255) (s4 : tree.length ≤ 255) (s5 : acts < 65536) (ht : tree.all teOk = true) {l : List HProp} {w : World} (hE : Ent l w)
    (hk : Knows l (reads (.slice ao tree.length c) tree.length (treeCells tree))) :
    Calls Try.prog 50 #[.agg #[.int .u8 7, .string ⟨name.toArray⟩, .string ⟨path.toArray⟩, .slice ao tree.length c, .int .u16 acts, .string ⟨keep.toArray⟩]] w (Ret fun v w' => v = .string ⟨(entB ⟨7, name, path, tree, acts, keep⟩).toArray⟩ ∧ Ent l w') := by
  have Ht := SL.hid ht
  clear ht
  have R := SL.hid (show entB ⟨7, name, path, tree, acts, keep⟩ = [7] ++ be 2 acts ++ nmB keep by simp [entB, bodyE, treeB, hasName, hasPath, hasTree, hasActs, hasKeep])
  obtain ⟨y0, e0⟩ : ∃ y, y = ([7] : List UInt8) := ⟨_, rfl⟩
  have hC0 : ∀ {l : List HProp} {w : World}, Ent l w → Calls Try.prog 89 #[.int .i64 1, .int .u64 7] w (Ret fun v w' => v = .string ⟨y0.toArray⟩ ∧ Ent l w') := fun h => by subst e0; exact num27_1 (n := 7) (by omega) h
  have Hl0 := SL.hid (show y0.length ≤ 1 by rw [e0]; simp)
  have Hy0 := SL.hid e0
  clear e0
  obtain ⟨y1, e1⟩ : ∃ y, y = be 2 acts := ⟨_, rfl⟩
  have hC1 : ∀ {l : List HProp} {w : World}, Ent l w → Calls Try.prog 89 #[.int .i64 2, .int .u64 acts] w (Ret fun v w' => v = .string ⟨y1.toArray⟩ ∧ Ent l w') := fun h => by subst e1; exact num27_2 s5 h
  have Hl1 := SL.hid (show y1.length ≤ 2 by rw [e1]; simp [be_length])
  have Hy1 := SL.hid e1
  clear e1
  obtain ⟨p0, q0, j0, c0⟩ := cat2 y0 y1 (by have := Hl0.out; have := Hl1.out; omega)
  have E0 := SL.hid q0
  clear q0
  obtain ⟨y2, e2⟩ : ∃ y, y = nmB keep := ⟨_, rfl⟩
  have hC2 : ∀ {l : List HProp} {w : World}, Ent l w → Calls Try.prog 90 #[.string ⟨keep.toArray⟩] w (Ret fun v w' => v = .string ⟨y2.toArray⟩ ∧ Ent l w') := fun h => by subst e2; exact name27 s3 h
  have Hl2 := SL.hid (show y2.length ≤ 256 by rw [e2]; simp [nmB]; omega)
  have Hy2 := SL.hid e2
  clear e2
  obtain ⟨p1, q1, j1, c1⟩ := cat2 p0 y2 (by have := Hl0.out; have := Hl1.out; have := Hl2.out; rw [E0.out, List.length_append]; omega)
  have E1 := SL.hid q1
  clear q1
  have hwa : IntKind.u64.wrap (acts : Int) = acts := wrapU_id (by omega)
  go_enter Try.func50, Try.ntmps50
  go_wp2_with (first
    | go_skip
    | ((with_reducible (show Go.wpList _ _ _ (Go.Oper.mk _ (.box _ _) _ _ _ _ :: _) _ _)); refine wpl_box hE rfl rfl rfl ?_; clear hE; intro b1 w hE; simp only [Act.eval, Act.put, List.setIfInBounds_toArray, List.set_cons_zero, List.set_cons_succ, getD_lit, List.getD_cons_succ, List.getD_cons_zero, Value.cells] at hE)
    | (go_at_call 89; refine (hC0 hE).mono ?_; clear hE; rintro e w2 ⟨v, rfl, rfl, hE⟩)
    | ((with_reducible (show Go.wpList _ _ _ (Go.Oper.mk _ (.load _ _) _ _ _ _ :: _) _ _)); first | (refine wpl_load1 hE 0 rfl rfl rfl rfl (by simp [go_sem]) rfl ?_) | (refine wpl_load1 hE 1 rfl rfl rfl rfl (by simp [go_sem]) rfl ?_) | (refine wpl_load1 hE 2 rfl rfl rfl rfl (by simp [go_sem]) rfl ?_) | (refine wpl_load1 hE 3 rfl rfl rfl rfl (by simp [go_sem]) rfl ?_) | (refine wpl_load1 hE 4 rfl rfl rfl rfl (by simp [go_sem]) rfl ?_) | (refine wpl_load1 hE 5 rfl rfl rfl rfl (by simp [go_sem]) rfl ?_)))
  refine wp_region_held_drew (S := (fun w' => (Instr.loadAt 82 (.pointer (some ⟨b1, 4, none⟩))).run Try.prog w' = .ok (.int .u16 acts) w' ∧ (Instr.loadAt 9 (.pointer (some ⟨b1, 5, none⟩))).run Try.prog w' = .ok (.string ⟨keep.toArray⟩) w')) (by kernel_rfl) ⟨atV hE.drew 0 rfl (by simp [go_sem]) rfl, atV hE.drew 0 rfl (by simp [go_sem]) rfl⟩ (fun hS => ?_)
  refine wpAnyH_take (i := 0) (oi := { dst := some 78, op := Go.Op.move (Go.Operand.tmp 3), type := 9, pos := "ref.go:63", after := #[], guard := none }) (v := ?_) rfl (by kernel_rfl) (by kernel_rfl) (by kernel_rfl) (fun _ _ _ h => h) (Or.inl ⟨by rfl, ?_⟩) hS ?_
  rotate_left
  · (intro w hSw; (try dsimp only at hSw); go_simp; (try with_reducible rfl))
  try simp only [Act.put, List.setIfInBounds_toArray, List.set_cons_zero, List.set_cons_succ]
  refine wpAnyH_take (i := 1) (oi := { dst := some 79, op := Go.Op.fieldAddr 84 (Go.Operand.tmp 1) 4, type := 0, pos := "ref.go:63", after := #[], guard := none }) (v := ?_) rfl (by kernel_rfl) (by kernel_rfl) (by kernel_rfl) (fun _ _ _ h => h) (Or.inl ⟨by rfl, ?_⟩) hS ?_
  rotate_left
  · (intro w hSw; (try dsimp only at hSw); go_simp; (try with_reducible rfl))
  try simp only [Act.put, List.setIfInBounds_toArray, List.set_cons_zero, List.set_cons_succ]
  refine wpAnyH_take (i := 2) (oi := { dst := some 80, op := Go.Op.load 82 (Go.Operand.tmp 79), type := 82, pos := "ref.go:63", after := #[{ on := 1, ground := Go.Ground.data }], guard := none }) (v := ?_) rfl (by kernel_rfl) (by kernel_rfl) (by kernel_rfl) (fun _ _ _ h => h) (Or.inl ⟨by rfl, ?_⟩) hS ?_
  rotate_left
  · (intro w hSw; (try dsimp only at hSw); go_simp; (try with_reducible rfl))
  try simp only [Act.put, List.setIfInBounds_toArray, List.set_cons_zero, List.set_cons_succ]
  refine wpAnyH_take (i := 3) (oi := { dst := some 81, op := Go.Op.convert 82 91 (Go.Operand.tmp 80), type := 91, pos := "ref.go:63", after := #[{ on := 2, ground := Go.Ground.data }], guard := none }) (v := ?_) rfl (by kernel_rfl) (by kernel_rfl) (by kernel_rfl) (fun _ _ _ h => h) (Or.inl ⟨by rfl, ?_⟩) hS ?_
  rotate_left
  · (intro w hSw; (try dsimp only at hSw); go_simp; (try with_reducible rfl))
  try simp only [Act.put, List.setIfInBounds_toArray, List.set_cons_zero, List.set_cons_succ]
  refine wpAnyH_take (i := 6) (oi := { dst := some 84, op := Go.Op.fieldAddr 84 (Go.Operand.tmp 1) 5, type := 0, pos := "ref.go:63", after := #[], guard := none }) (v := ?_) rfl (by kernel_rfl) (by kernel_rfl) (by kernel_rfl) (fun _ _ _ h => h) (Or.inl ⟨by rfl, ?_⟩) hS ?_
  rotate_left
  · (intro w hSw; (try dsimp only at hSw); go_simp; (try with_reducible rfl))
  try simp only [Act.put, List.setIfInBounds_toArray, List.set_cons_zero, List.set_cons_succ]
  refine wpAnyH_take (i := 7) (oi := { dst := some 85, op := Go.Op.load 9 (Go.Operand.tmp 84), type := 9, pos := "ref.go:63", after := #[{ on := 6, ground := Go.Ground.data }], guard := none }) (v := ?_) rfl (by kernel_rfl) (by kernel_rfl) (by kernel_rfl) (fun _ _ _ h => h) (Or.inl ⟨by rfl, ?_⟩) hS ?_
  rotate_left
  · (intro w hSw; (try dsimp only at hSw); go_simp; (try with_reducible rfl))
  try simp only [Act.put, List.setIfInBounds_toArray, List.set_cons_zero, List.set_cons_succ]
  refine wpAnyH_ready (rs := [4]) (by kernel_rfl) (by simp) ?_
  refine (AllReadyH.cons (o := { dst := some 82, op := Go.Op.call { callee := Go.Callee.value (Go.Operand.func 89), args := #[Go.Operand.const (Go.Value.int Go.IntKind.i64 2), Go.Operand.tmp 81], argTypes := #[3, 91] }, type := 9, pos := "ref.go:63", after := #[{ on := 3, ground := Go.Ground.data }], guard := none }) rfl (fun K hK => ?_) AllReadyH.nil)
  (go_simp; refine (hC1 hE.drew).mono ?_; rintro e w3 ⟨v, rfl, rfl, hE3⟩)
  refine hK.out _ _ ⟨atV hE3 0 rfl (by simp [go_sem]) rfl, atV hE3 0 rfl (by simp [go_sem]) rfl⟩ (fun hS => ?_)
  clear hK K
  try simp only [Act.put, List.setIfInBounds_toArray, List.set_cons_zero, List.set_cons_succ]
  refine wpAnyH_take (i := 5) (oi := { dst := some 83, op := Go.Op.binOp Go.BinOp.add 9 (Go.Operand.tmp 78) (Go.Operand.tmp 82) 9, type := 9, pos := "ref.go:63", after := #[{ on := 0, ground := Go.Ground.data }, { on := 4, ground := Go.Ground.data }], guard := none }) (v := ?_) rfl (by kernel_rfl) (by kernel_rfl) (by kernel_rfl) (fun _ _ _ h => h) (Or.inl ⟨by rfl, ?_⟩) hS ?_
  rotate_left
  · (intro w hSw; (try dsimp only at hSw); go_simp; (try with_reducible rfl))
  try simp only [Act.put, List.setIfInBounds_toArray, List.set_cons_zero, List.set_cons_succ]
  refine wpAnyH_ready (rs := [8]) (by kernel_rfl) (by simp) ?_
  refine (AllReadyH.cons (o := { dst := some 86, op := Go.Op.call { callee := Go.Callee.value (Go.Operand.func 90), args := #[Go.Operand.tmp 85], argTypes := #[9] }, type := 9, pos := "ref.go:63", after := #[{ on := 7, ground := Go.Ground.data }, { on := 4, ground := Go.Ground.chain }], guard := none }) rfl (fun K hK => ?_) AllReadyH.nil)
  (go_simp; refine (hC2 hE3).mono ?_; rintro e w4 ⟨v, rfl, rfl, hE4⟩)
  refine hK.out _ _ ⟨atV hE4 0 rfl (by simp [go_sem]) rfl, atV hE4 0 rfl (by simp [go_sem]) rfl⟩ (fun hS => ?_)
  clear hK K
  try simp only [Act.put, List.setIfInBounds_toArray, List.set_cons_zero, List.set_cons_succ]
  refine wpAnyH_take (i := 9) (oi := { dst := some 87, op := Go.Op.binOp Go.BinOp.add 9 (Go.Operand.tmp 83) (Go.Operand.tmp 86) 9, type := 9, pos := "ref.go:63", after := #[{ on := 5, ground := Go.Ground.data }, { on := 8, ground := Go.Ground.data }], guard := none }) (v := ?_) rfl (by kernel_rfl) (by kernel_rfl) (by kernel_rfl) (fun _ _ _ h => h) (Or.inl ⟨by rfl, ?_⟩) hS ?_
  rotate_left
  · (intro w hSw; (try dsimp only at hSw); go_simp; (try with_reducible rfl))
  try simp only [Act.put, List.setIfInBounds_toArray, List.set_cons_zero, List.set_cons_succ]
  refine wpAnyH_take (i := 10) (oi := { dst := some 3, op := Go.Op.assign (Go.Operand.tmp 87), type := 9, pos := "ref.go:63", after := #[{ on := 9, ground := Go.Ground.data }, { on := 8, ground := Go.Ground.chain }, { on := 0, ground := Go.Ground.phase }, { on := 1, ground := Go.Ground.phase }, { on := 2, ground := Go.Ground.phase }, { on := 3, ground := Go.Ground.phase }, { on := 4, ground := Go.Ground.phase }, { on := 5, ground := Go.Ground.phase }, { on := 6, ground := Go.Ground.phase }, { on := 7, ground := Go.Ground.phase }, { on := 8, ground := Go.Ground.phase }, { on := 9, ground := Go.Ground.phase }], guard := none }) (v := ?_) rfl (by kernel_rfl) (by kernel_rfl) (by kernel_rfl) (fun _ _ _ h => h) (Or.inl ⟨by rfl, ?_⟩) hS ?_
  rotate_left
  · (intro w hSw; (try dsimp only at hSw); go_simp; (try with_reducible rfl))
  try simp only [Act.put, List.setIfInBounds_toArray, List.set_cons_zero, List.set_cons_succ]
  refine wpAnyH_done (by kernel_rfl) ?_ _
  go_wp2
  go_ret
  exact ⟨_, rfl, by rw [R.out, ← Hy0.out, ← Hy1.out, ← Hy2.out, ← E0.out, ← E1.out]; rfl, hE4.tail⟩

set_option maxRecDepth 100000 in
set_option maxHeartbeats 2000000 in
attribute [-go_sem] Instr.loadAt in
theorem by27_8 {name path keep : List UInt8} {tree : List TE} {acts : Nat} {ao : Option Addr} {c : Nat} (s1 : name.length ≤ 255) (s2 : path.length ≤ 255) (s3 : keep.length ≤ 255) (s4 : tree.length ≤ 255) (s5 : acts < 65536) (ht : tree.all teOk = true) {l : List HProp} {w : World} (hE : Ent l w)
    (hk : Knows l (reads (.slice ao tree.length c) tree.length (treeCells tree))) :
    Calls Try.prog 50 #[.agg #[.int .u8 8, .string ⟨name.toArray⟩, .string ⟨path.toArray⟩, .slice ao tree.length c, .int .u16 acts, .string ⟨keep.toArray⟩]] w (Ret fun v w' => v = .string ⟨(entB ⟨8, name, path, tree, acts, keep⟩).toArray⟩ ∧ Ent l w') := by
  have Ht := SL.hid ht
  clear ht
  have R := SL.hid (show entB ⟨8, name, path, tree, acts, keep⟩ = [8] ++ nmB keep by simp [entB, bodyE, treeB, hasName, hasPath, hasTree, hasActs, hasKeep])
  obtain ⟨y0, e0⟩ : ∃ y, y = ([8] : List UInt8) := ⟨_, rfl⟩
  have hC0 : ∀ {l : List HProp} {w : World}, Ent l w → Calls Try.prog 89 #[.int .i64 1, .int .u64 8] w (Ret fun v w' => v = .string ⟨y0.toArray⟩ ∧ Ent l w') := fun h => by subst e0; exact num27_1 (n := 8) (by omega) h
  have Hl0 := SL.hid (show y0.length ≤ 1 by rw [e0]; simp)
  have Hy0 := SL.hid e0
  clear e0
  obtain ⟨y1, e1⟩ : ∃ y, y = nmB keep := ⟨_, rfl⟩
  have hC1 : ∀ {l : List HProp} {w : World}, Ent l w → Calls Try.prog 90 #[.string ⟨keep.toArray⟩] w (Ret fun v w' => v = .string ⟨y1.toArray⟩ ∧ Ent l w') := fun h => by subst e1; exact name27 s3 h
  have Hl1 := SL.hid (show y1.length ≤ 256 by rw [e1]; simp [nmB]; omega)
  have Hy1 := SL.hid e1
  clear e1
  obtain ⟨p0, q0, j0, c0⟩ := cat2 y0 y1 (by have := Hl0.out; have := Hl1.out; omega)
  have E0 := SL.hid q0
  clear q0
  go_enter Try.func50, Try.ntmps50
  go_wp2_with (first
    | go_skip
    | ((with_reducible (show Go.wpList _ _ _ (Go.Oper.mk _ (.box _ _) _ _ _ _ :: _) _ _)); refine wpl_box hE rfl rfl rfl ?_; clear hE; intro b1 w hE; simp only [Act.eval, Act.put, List.setIfInBounds_toArray, List.set_cons_zero, List.set_cons_succ, getD_lit, List.getD_cons_succ, List.getD_cons_zero, Value.cells] at hE)
    | (go_at_call 89; refine (hC0 hE).mono ?_; clear hE; rintro e w2 ⟨v, rfl, rfl, hE⟩)
    | (go_at_call 90; refine (hC1 hE).mono ?_; clear hE; rintro e w2 ⟨v, rfl, rfl, hE⟩)
    | ((with_reducible (show Go.wpList _ _ _ (Go.Oper.mk _ (.load _ _) _ _ _ _ :: _) _ _)); first | (refine wpl_load1 hE 0 rfl rfl rfl rfl (by simp [go_sem]) rfl ?_) | (refine wpl_load1 hE 1 rfl rfl rfl rfl (by simp [go_sem]) rfl ?_) | (refine wpl_load1 hE 2 rfl rfl rfl rfl (by simp [go_sem]) rfl ?_) | (refine wpl_load1 hE 3 rfl rfl rfl rfl (by simp [go_sem]) rfl ?_) | (refine wpl_load1 hE 4 rfl rfl rfl rfl (by simp [go_sem]) rfl ?_) | (refine wpl_load1 hE 5 rfl rfl rfl rfl (by simp [go_sem]) rfl ?_)))
  go_ret
  exact ⟨_, rfl, by rw [R.out, ← Hy0.out, ← Hy1.out, ← E0.out]; rfl, hE.tail⟩

set_option maxRecDepth 100000 in
set_option maxHeartbeats 2000000 in
attribute [-go_sem] Instr.loadAt in
theorem by27_o {d : UInt8} (hd0 : (d.toNat : Int) ≠ 0) (hd1 : (d.toNat : Int) ≠ 1) (hd2 : (d.toNat : Int) ≠ 2) (hd3 : (d.toNat : Int) ≠ 3) (hd7 : (d.toNat : Int) ≠ 7) (hd8 : (d.toNat : Int) ≠ 8) (hn : hasName d = false ∧ hasPath d = false ∧ hasTree d = false ∧ hasActs d = false ∧ hasKeep d = false) {name path keep : List UInt8} {tree : List TE} {acts : Nat} {ao : Option Addr} {c : Nat} (s1 : name.length ≤ 255) (s2 : path.length ≤ 255) (s3 : keep.length ≤ 255) (s4 : tree.length ≤ 255) (s5 : acts < 65536) (ht : tree.all teOk = true) {l : List HProp} {w : World} (hE : Ent l w)
    (hk : Knows l (reads (.slice ao tree.length c) tree.length (treeCells tree))) :
    Calls Try.prog 50 #[.agg #[.int .u8 d.toNat, .string ⟨name.toArray⟩, .string ⟨path.toArray⟩, .slice ao tree.length c, .int .u16 acts, .string ⟨keep.toArray⟩]] w (Ret fun v w' => v = .string ⟨(entB ⟨d, name, path, tree, acts, keep⟩).toArray⟩ ∧ Ent l w') := by
  have Ht := SL.hid ht
  clear ht
  have n0 : ((d.toNat : Int) == 0) = false := by simpa using hd0
  have n1 : ((d.toNat : Int) == 1) = false := by simpa using hd1
  have n2 : ((d.toNat : Int) == 2) = false := by simpa using hd2
  have n3 : ((d.toNat : Int) == 3) = false := by simpa using hd3
  have n7 : ((d.toNat : Int) == 7) = false := by simpa using hd7
  have n8 : ((d.toNat : Int) == 8) = false := by simpa using hd8
  clear hd0 hd1 hd2 hd3 hd7 hd8
  have R := SL.hid (show entB ⟨d, name, path, tree, acts, keep⟩ = [d] by simp [entB, bodyE, hn.1, hn.2.1, hn.2.2.1, hn.2.2.2.1, hn.2.2.2.2])
  clear hn
  have hdl := d.toNat_lt
  have hwd : IntKind.u64.wrap (d.toNat : Int) = d.toNat := wrapU_id (by omega)
  have e0 : [UInt8.ofNat d.toNat] = [d] := by simp
  have hC0 : ∀ {l : List HProp} {w : World}, Ent l w → Calls Try.prog 89 #[.int .i64 1, .int .u64 d.toNat] w (Ret fun v w' => v = .string ⟨[d].toArray⟩ ∧ Ent l w') := fun h => by rw [← e0]; exact num27_1 (by omega) h
  clear e0
  generalize d.toNat = dn at *
  generalize [d] = y0 at *
  go_enter Try.func50, Try.ntmps50
  go_wp2_with (first
    | go_skip
    | ((with_reducible (show Go.wpList _ _ _ (Go.Oper.mk _ (.box _ _) _ _ _ _ :: _) _ _)); refine wpl_box hE rfl rfl rfl ?_; clear hE; intro b1 w hE; simp only [Act.eval, Act.put, List.setIfInBounds_toArray, List.set_cons_zero, List.set_cons_succ, getD_lit, List.getD_cons_succ, List.getD_cons_zero, Value.cells] at hE)
    | (go_at_call 89; refine (hC0 hE).mono ?_; clear hE; rintro e w2 ⟨v, rfl, rfl, hE⟩)
    | ((with_reducible (show Go.wpList _ _ _ (Go.Oper.mk _ (.load _ _) _ _ _ _ :: _) _ _)); first | (refine wpl_load1 hE 0 rfl rfl rfl rfl (by simp [go_sem]) rfl ?_) | (refine wpl_load1 hE 1 rfl rfl rfl rfl (by simp [go_sem]) rfl ?_) | (refine wpl_load1 hE 2 rfl rfl rfl rfl (by simp [go_sem]) rfl ?_) | (refine wpl_load1 hE 3 rfl rfl rfl rfl (by simp [go_sem]) rfl ?_) | (refine wpl_load1 hE 4 rfl rfl rfl rfl (by simp [go_sem]) rfl ?_) | (refine wpl_load1 hE 5 rfl rfl rfl rfl (by simp [go_sem]) rfl ?_)))
  go_ret
  exact ⟨_, rfl, by rw [R.out]; rfl, hE.tail⟩

theorem Bytes27_any {x : SE} {ao : Option Addr} {c : Nat} (hg : x.good) (hm : mayE x = true) {l : List HProp} {w : World} (hE : Ent l w) (hk : Knows l (reads (.slice ao x.tree.length c) x.tree.length (treeCells x.tree))) :
    Calls Try.prog 50 #[.agg (xcells x ao c).toArray] w (Ret fun v w' => v = .string ⟨(entB x).toArray⟩ ∧ Ent l w') := by
  obtain ⟨s1, s2, s3, s4, ht⟩ := may_sizes hm
  obtain ⟨d, name, path, tree, acts, keep⟩ := x
  rcases u8cases d with rfl | rfl | rfl | rfl | rfl | rfl | ⟨hp, h0, h1, h2, h3, h7, h8⟩
  · exact by27_0 s1 s2 s3 s4 hg ht hE hk
  · exact by27_1 s1 s2 s3 s4 hg ht hE hk
  · exact by27_2 s1 s2 s3 s4 hg ht hE hk
  · exact by27_3 s1 s2 s3 s4 hg ht hE hk
  · exact by27_7 s1 s2 s3 s4 hg ht hE hk
  · exact by27_8 s1 s2 s3 s4 hg ht hE hk
  · exact by27_o h0 h1 h2 h3 h7 h8 (pieces_none hp) s1 s2 s3 s4 hg ht hE hk
end Go.Proofs.Ytohdljcpaogokaa
namespace Go.Proofs.Ytohdljcpaogokaa
open Go.RowKit Go.SL

def RPut1 (vs : List SV) (l : List HProp) (i : Value) (wr : World) : Prop := ∃ k : Nat, k ≤ vs.length ∧ i = .int .i64 k ∧ (xsOf (vs.take k)).all mayE = true ∧ Ent l wr
def RPut2 (vs : List SV) (l : List HProp) (s i : Value) (wr : World) : Prop := ∃ k : Nat, k ≤ vs.length ∧ i = .int .i64 k ∧ s = .string ⟨(allB (xsOf (vs.take k))).toArray⟩ ∧ Ent l wr

set_option maxRecDepth 100000 in
set_option maxHeartbeats 4000000 in
theorem RPuts_any {vs : List SV} {ao : Option Addr} {c : Nat} {l : List HProp} {w : World} (hE : Ent l w) (hn : vs.length ≤ 10000) (hx : ∀ v ∈ vs, v.x.good)
    (hk : Knows l (reads (.slice ao vs.length c) vs.length (svCells vs))) (hkt : ∀ v ∈ vs, v.known l) :
    Calls Try.prog 13 #[.slice ao vs.length c] w (Ret fun v w' => v = .tuple #[.string ⟨(putS (xsOf vs)).toArray⟩, .int .i64 (putSE (xsOf vs))] ∧ Ent l w') := by
  have Hx := SL.hid hx
  have Hkt := SL.hid hkt
  clear hx hkt
  go_enter Try.func13, Try.ntmps13
  go_wp2
  go_loopw [5] (fun i wr => RPut1 vs l i wr) (fun i _ => vs.length - (intOf i).toNat)
  case atStart => exact ⟨0, Nat.zero_le _, rfl, rfl, hE⟩
  case round =>
    clear hE
    obtain ⟨k, hkl, rfl, hall, hE⟩ := hrel
    have Hall := SL.hid hall
    clear hall
    by_cases hlt : k < vs.length
    · obtain ⟨bt, off, rfl, _⟩ := reads_form (hk _ hE) (by omega) (by rw [svCells_len]; omega)
      have Hcx := SL.hid (sv_cells (hk _ hE) hlt)
      have hv := List.getElem_mem hlt
      have Hkv := SL.hid (Hkt.out _ hv)
      have Ha := SL.hid (show xsOf (vs.take (k + 1)) = xsOf (vs.take k) ++ [vs[k].x] by rw [xsOf, List.take_succ_eq_append_getElem hlt, List.map_append]; rfl)
      have Hin := SL.hid (show vs[k].x ∈ xsOf vs from List.mem_map.2 ⟨_, hv, rfl⟩)
      clear hv
      generalize vs[k] = v at *
      obtain ⟨x, aox, cx⟩ := v
      simp only [SV.cells, SV.known] at Hcx Hkv Ha Hin
      cases hm : mayE x with
      | false =>
        have R := SL.hid (show putS (xsOf vs) = [] ∧ putSE (xsOf vs) = 3 by
          have : (xsOf vs).all mayE = false := List.all_eq_false.2 ⟨x, Hin.out, by simp [hm]⟩
          simp [putS, putSE, this])
        have hM : ∀ {w : World}, Ent l w → Calls Try.prog 49 #[.agg (xcells x aox cx).toArray] w (Ret fun v w' => v = .bool false ∧ Ent l w') := fun h => by rw [← hm]; exact May27_any h Hkv.out
        clear hm
        go_wp2_with (first
          | ((with_reducible (show Go.wpList _ _ _ (Go.Oper.mk _ (.load 84 _) _ _ _ _ :: _) _ _)); refine wpl_loadC rfl rfl rfl Try.isAgg84 Try.sizeOf84 (xcells x aox cx) rfl Hcx.out ?_)
          | (go_at_call 49; refine (hM hE).mono ?_; clear hE; rintro e w2 ⟨v, rfl, rfl, hE⟩))
        go_ret2
        exact ⟨_, rfl, by rw [R.out.1, R.out.2]; rfl, hE⟩
      | true =>
        have Hs := SL.hid (show (xsOf (vs.take (k + 1))).all mayE = true by rw [Ha.out, List.all_append, Hall.out]; simp [hm])
        have hM : ∀ {w : World}, Ent l w → Calls Try.prog 49 #[.agg (xcells x aox cx).toArray] w (Ret fun v w' => v = .bool true ∧ Ent l w') := fun h => by rw [← hm]; exact May27_any h Hkv.out
        clear hm
        go_wp2_with (first
          | ((with_reducible (show Go.wpList _ _ _ (Go.Oper.mk _ (.load 84 _) _ _ _ _ :: _) _ _)); refine wpl_loadC rfl rfl rfl Try.isAgg84 Try.sizeOf84 (xcells x aox cx) rfl Hcx.out ?_)
          | (go_at_call 49; refine (hM hE).mono ?_; clear hE; rintro e w2 ⟨v, rfl, rfl, hE⟩))
        go_roundw
        case rel => exact ⟨k + 1, hlt, by simp, Hs.out, hE⟩
        case measure => simp [intOf]; omega
    · have Hall2 := SL.hid (show (xsOf vs).all mayE = true by have := Hall.out; rwa [show k = vs.length by omega, List.take_length] at this)
      clear Hall
      go_wp2
      go_loopw [4, 6] (fun s i wr => RPut2 vs l s i wr) (fun _ i _ => vs.length - (intOf i).toNat)
      case atStart => exact ⟨0, Nat.zero_le _, rfl, rfl, hE⟩
      case round =>
        clear hE hlt hkl
        obtain ⟨j, hjl, rfl, rfl, hE⟩ := hrel
        by_cases hlt2 : j < vs.length
        · obtain ⟨bt, off, rfl, _⟩ := reads_form (hk _ hE) (by omega) (by rw [svCells_len]; omega)
          have Hcx := SL.hid (sv_cells (hk _ hE) hlt2)
          have hv := List.getElem_mem hlt2
          have hgd := Hx.out _ hv
          have Hkv := SL.hid (Hkt.out _ hv)
          have Ha := SL.hid (show xsOf (vs.take (j + 1)) = xsOf (vs.take j) ++ [vs[j].x] by rw [xsOf, List.take_succ_eq_append_getElem hlt2, List.map_append]; rfl)
          have hm : mayE vs[j].x = true := List.all_eq_true.1 Hall2.out _ (List.mem_map.2 ⟨_, hv, rfl⟩)
          clear hv
          have hallj : (xsOf (vs.take j)).all mayE = true := List.all_eq_true.2 fun x hx => List.all_eq_true.1 Hall2.out x (by
            obtain ⟨v, hv, rfl⟩ := List.mem_map.1 hx
            exact List.mem_map.2 ⟨v, List.mem_of_mem_take hv, rfl⟩)
          have hab := allB_len hallj
          have hab2 : (allB (xsOf (vs.take j))).length ≤ 200000000000 := by
            have : (xsOf (vs.take j)).length * 20000000 ≤ 10000 * 20000000 := Nat.mul_le_mul_right _ (by simp only [xsOf, List.length_map, List.length_take]; omega)
            omega
          clear hab hallj
          generalize vs[j] = v at *
          obtain ⟨x, aox, cx⟩ := v
          simp only [SV.cells, SV.known] at Hcx Hkv Ha hm hgd
          have heb := entB_len (mayE_fits hm).1
          have hB : ∀ {w : World}, Ent l w → Calls Try.prog 50 #[.agg (xcells x aox cx).toArray] w (Ret fun v w' => v = .string ⟨(entB x).toArray⟩ ∧ Ent l w') := fun h => Bytes27_any hgd hm h Hkv.out
          have Hb := SL.hid (show allB (xsOf (vs.take (j + 1))) = allB (xsOf (vs.take j)) ++ entB x by rw [Ha.out]; simp [allB])
          clear hm hgd
          generalize allB (xsOf (vs.take j)) = pre at *
          generalize entB x = y at *
          obtain ⟨p, hp, hj, hc⟩ := cat2 pre y (by omega)
          have Hp := SL.hid hp
          clear hp hab2 heb
          go_wp2_with (first
            | ((with_reducible (show Go.wpList _ _ _ (Go.Oper.mk _ (.load 84 _) _ _ _ _ :: _) _ _)); refine wpl_loadC rfl rfl rfl Try.isAgg84 Try.sizeOf84 (xcells x aox cx) rfl Hcx.out ?_)
            | (go_at_call 50; refine (hB hE).mono ?_; clear hE; rintro e w2 ⟨v, rfl, rfl, hE⟩))
          go_roundw
          case rel => exact ⟨j + 1, hlt2, by simp, by rw [Hb.out, Hp.out], hE⟩
          case measure => simp [intOf]; omega
        · have E2 : vs.take j = vs := by rw [show j = vs.length by omega, List.take_length]
          rw [E2]
          clear E2
          have H0 := SL.hid (show putS (xsOf vs) = (if (allB (xsOf vs)).length ≤ 4000 then allB (xsOf vs) else []) ∧ putSE (xsOf vs) = if (allB (xsOf vs)).length ≤ 4000 then 0 else 6 by simp [putS, putSE, Hall2.out])
          generalize allB (xsOf vs) = p at *
          by_cases h4 : p.length ≤ 4000
          · have R := SL.hid (show putS (xsOf vs) = p ∧ putSE (xsOf vs) = 0 by have := H0.out; simpa [h4] using this)
            have hd : decide ((4000 : Int) < (p.length : Int)) = false := decide_eq_false (by omega)
            clear h4
            go_wp2
            go_ret2
            exact ⟨_, rfl, by rw [R.out.1, R.out.2]; rfl, hE⟩
          · have R := SL.hid (show putS (xsOf vs) = [] ∧ putSE (xsOf vs) = 6 by have := H0.out; simpa [h4] using this)
            have hd : (4000 : Int) < (p.length : Int) := by omega
            clear h4
            go_wp2
            go_ret2
            exact ⟨_, rfl, by rw [R.out.1, R.out.2]; rfl, hE⟩
end Go.Proofs.Ytohdljcpaogokaa
