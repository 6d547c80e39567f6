/-
  The names of a path, as the document takes them. Printed by gen_pa6.py.
-/
import Derived.Test.YtohdljcpaogokaaDoorPa5
namespace Go.Proofs.YtohdljcpaogokaaDoor
open Go.RowKit Go.SL

def RsRel (p : List UInt8) (l : List HProp) (o fr i : Value) (wr : World) : Prop :=
  ∃ (pre : List (List UInt8)) (f k : Nat) (ao : Option Addr) (c : Nat), o = .slice ao pre.length c ∧ fr = .int .i64 f ∧ i = .int .i64 k ∧ pre.all isName = true ∧ pre.length ≤ k ∧ k ≤ p.length + 1 ∧
    ((f ≤ k ∧ k ≤ p.length ∧ cuts p = pre ++ cuts (p.drop f) ∧ ∀ b ∈ (p.drop f).take (k - f), b ≠ 47) ∨ (k = p.length + 1 ∧ cuts p = pre)) ∧ Ent (rowS ao c pre :: l) wr
theorem slash_next {p : List UInt8} {f k : Nat} (hf : f ≤ k) (hk : k < p.length) : (p.drop f).take (k + 1 - f) = (p.drop f).take (k - f) ++ [p.getD k 0] := by
  have h : k - f < (p.drop f).length := by rw [List.length_drop]; omega
  rw [show k + 1 - f = (k - f) + 1 by omega, List.take_succ_eq_append_getElem h, List.getElem_drop]
  congr 2
  rw [List.getD_eq_getElem?_getD, List.getElem?_eq_getElem hk]
  simp [show f + (k - f) = k by omega]
theorem slash_cut {p : List UInt8} {f k : Nat} (hf : f ≤ k) (hk : k < p.length) (h : p.getD k 0 = 47) (ha : ∀ b ∈ (p.drop f).take (k - f), b ≠ 47) : cuts (p.drop f) = (p.drop f).take (k - f) :: cuts (p.drop (k + 1)) := by
  have e : p.drop f = (p.drop f).take (k - f) ++ 47 :: p.drop (k + 1) := by
    have h2 := slash_next hf hk
    rw [h] at h2
    have h3 := (List.take_append_drop (k + 1 - f) (p.drop f)).symm
    rw [List.drop_drop, show f + (k + 1 - f) = k + 1 by omega, h2, List.append_assoc] at h3
    exact h3
  conv => lhs; rw [e]
  exact cuts_app _ ha
theorem slash_last {p : List UInt8} {f : Nat} (hf : f ≤ p.length) (ha : ∀ b ∈ (p.drop f).take (p.length - f), b ≠ 47) : (p.drop f).take (p.length - f) = p.drop f ∧ cuts (p.drop f) = [p.drop f] := by
  have e : (p.drop f).take (p.length - f) = p.drop f := List.take_of_length_le (by rw [List.length_drop]; omega)
  rw [e] at ha
  exact ⟨e, cuts_free ha⟩

set_option maxRecDepth 100000 in
set_option maxHeartbeats 4000000 in
theorem rSplit_any {p : List UInt8} (hp : p.length ≤ 1000000) {l : List HProp} {w : World} (hE : Ent l w) :
    Calls Tryd.prog 10 #[.string ⟨p.toArray⟩] w (Ret fun v w' => ∃ ao c, v = .tuple #[.slice ao (splitL p).length c, .int .i64 (splitE p)] ∧ Ent (rowS ao c (splitL p) :: l) w') := by
  by_cases h0 : p = []
  · subst h0
    go_enter Tryd.func10, Tryd.ntmps10
    go_wp2
    go_ret2
    exact ⟨_, rfl, none, 0, rfl, hE.nil _ _⟩
  have hne : (p == []) = false := by simpa using h0
  go_enter Tryd.func10, Tryd.ntmps10
  go_wp2
  go_loopw [4, 5, 6] (fun o fr i wr => RsRel p l o fr i wr) (fun _ _ i _ => p.length + 1 - (intOf i).toNat)
  case atStart => exact ⟨[], 0, 0, none, 0, rfl, rfl, rfl, rfl, Nat.le_refl _, Nat.zero_le _, .inl ⟨Nat.le_refl _, Nat.zero_le _, rfl, by simp⟩, hE.nil _ _⟩
  case round =>
    clear hE
    obtain ⟨pre, f, k, ao, c, rfl, rfl, rfl, hall, hpk, hkl, hst, hE⟩ := hrel
    have Hall := SL.hid hall
    clear hall
    by_cases hlt : k ≤ p.length
    · obtain ⟨hf, _, hc, ha⟩ := hst.resolve_right (by rintro ⟨h, _⟩; omega)
      clear hst
      have hwk : wrap64 ((k : Int) + 1) = ((k + 1 : Nat) : Int) := by unfold wrap64; omega
      have hex : (⟨p.toArray⟩ : ByteArray).extract f k = ⟨((p.drop f).take (k - f)).toArray⟩ := extract_mk p f k
      have hN := fun w => rName_any ((p.drop f).take (k - f)) (by rw [List.length_take, List.length_drop]; omega) w
      by_cases hi : k < p.length
      · have hix := str_at p k (by rw [bytes_size]; exact hi)
        have Hnx := SL.hid (slash_next hf hi)
        have Hct := SL.hid (slash_cut hf hi)
        cases h47 : (((p.getD k 0).toNat : Int) != 47) with
        | true =>
          have H1 := SL.hid (show p.getD k 0 ≠ 47 by intro e; rw [e] at h47; simp at h47)
          have Hc := SL.hid hc
          have Ha := SL.hid ha
          clear hc ha hex hN
          generalize p.getD k 0 = b at *
          go_wp2
          go_roundw
          case rel =>
            refine ⟨pre, f, k + 1, ao, c, rfl, rfl, by first | rfl | simp, Hall.out, by omega, by omega, .inl ⟨by omega, by omega, Hc.out, ?_⟩, hE⟩
            rw [Hnx.out]
            intro d hd
            simp only [List.mem_append, List.mem_singleton] at hd
            rcases hd with hd | rfl
            · exact Ha.out d hd
            · exact H1.out
          case measure => simp [intOf] <;> omega
        | false =>
          have e47 : p.getD k 0 = 47 := by
            have : (p.getD k 0).toNat = 47 := by
              have h : ((p.getD k 0).toNat : Int) = 47 := by simpa using h47
              omega
            rw [← UInt8.toNat_inj, this]; rfl
          have Hcc := SL.hid (show cuts p = (pre ++ [(p.drop f).take (k - f)]) ++ cuts (p.drop (k + 1)) by rw [hc, Hct.out e47 ha]; simp)
          have hlx : ((p.drop f).take (k - f)).length ≤ 1000000 := by rw [List.length_take, List.length_drop]; omega
          clear hc ha Hct Hnx
          generalize (p.drop f).take (k - f) = x at *
          generalize p.getD k 0 = b at *
          cases hn : isName x with
          | false =>
            rw [hn] at hN
            have R := SL.hid (split_bad h0 (x := x) (by rw [Hcc.out]; simp) hn)
            clear hn
            go_wp2_with (first
              | go_skip
              | (go_at_call 12; refine (hN _).mono ?_; rintro e w2 ⟨rfl, rfl⟩))
            go_ret2
            exact ⟨_, rfl, none, 0, by rw [R.out.1, R.out.2]; rfl, by rw [R.out.1]; exact hE.tail.nil _ _⟩
          | true =>
            rw [hn] at hN
            have Hn := SL.hid (show (pre ++ [x]).all isName = true by rw [List.all_append, Hall.out]; simp [hn])
            clear hn
            go_wp2_with (first
              | go_skip
              | (go_at_call 12; refine (hN _).mono ?_; rintro e w2 ⟨rfl, rfl⟩)
              | ((with_reducible (show Go.wpList _ _ _ (Go.Oper.mk _ (.call { callee := .builtin .append, args := _, argTypes := _ }) _ _ _ _ :: _) _ _)); have hE9 := hE.alloc (.cells #[.string ⟨x.toArray⟩] 9); refine wpl_appendG hE9 1 rfl rfl rfl rfl rfl Tryd.underlying22 info_str (by decide) (m := 1) (news := [strv x]) (reads_pt hE9 0 rfl (off := 0) (fun j u hu => by rw [Nat.zero_add, List.getElem?_toArray]; exact hu)) rfl (by simp [strv, Value.oneCell']) (by omega) (by omega) ?_; clear hE9 hE; intro ao' c' w6 hE10; simp only [List.set_cons_zero, List.set_cons_succ] at hE10))
            go_roundw
            case measure => simp [intOf] <;> omega
            case rel =>
              have hF := hE10.tail
              have e1 : (pre ++ [x]).length = pre.length + 1 := by simp
              have e2 : (pre ++ [x]).map strv = pre.map strv ++ [strv x] := by simp
              refine ⟨pre ++ [x], k + 1, k + 1, ao', c', by rw [e1], by first | rfl | simp, by first | rfl | simp, Hn.out, by rw [e1]; omega, by omega, .inl ⟨Nat.le_refl _, by omega, Hcc.out, by simp⟩, by simp only [rowS, e1, e2]; exact hF⟩
      · obtain rfl : k = p.length := by omega
        obtain ⟨ex, ec⟩ := slash_last hf ha
        have Hcc := SL.hid (show cuts p = pre ++ [(p.drop f).take (p.length - f)] by rw [hc, ec, ex])
        have hlx : ((p.drop f).take (p.length - f)).length ≤ 1000000 := by rw [List.length_take, List.length_drop]; omega
        clear hc ha ex ec
        generalize (p.drop f).take (p.length - f) = x at *
        cases hn : isName x with
        | false =>
          rw [hn] at hN
          have R := SL.hid (split_bad h0 (x := x) (by rw [Hcc.out]; simp) hn)
          clear hn
          go_wp2_with (first
            | go_skip
            | (go_at_call 12; refine (hN _).mono ?_; rintro e w2 ⟨rfl, rfl⟩))
          go_ret2
          exact ⟨_, rfl, none, 0, by rw [R.out.1, R.out.2]; rfl, by rw [R.out.1]; exact hE.tail.nil _ _⟩
        | true =>
          rw [hn] at hN
          have Hn := SL.hid (show (pre ++ [x]).all isName = true by rw [List.all_append, Hall.out]; simp [hn])
          clear hn
          go_wp2_with (first
            | go_skip
            | (go_at_call 12; refine (hN _).mono ?_; rintro e w2 ⟨rfl, rfl⟩)
            | ((with_reducible (show Go.wpList _ _ _ (Go.Oper.mk _ (.call { callee := .builtin .append, args := _, argTypes := _ }) _ _ _ _ :: _) _ _)); have hE9 := hE.alloc (.cells #[.string ⟨x.toArray⟩] 9); refine wpl_appendG hE9 1 rfl rfl rfl rfl rfl Tryd.underlying22 info_str (by decide) (m := 1) (news := [strv x]) (reads_pt hE9 0 rfl (off := 0) (fun j u hu => by rw [Nat.zero_add, List.getElem?_toArray]; exact hu)) rfl (by simp [strv, Value.oneCell']) (by omega) (by omega) ?_; clear hE9 hE; intro ao' c' w6 hE10; simp only [List.set_cons_zero, List.set_cons_succ] at hE10))
          go_roundw
          case measure => simp [intOf] <;> omega
          case rel =>
            have hF := hE10.tail
            have e1 : (pre ++ [x]).length = pre.length + 1 := by simp
            have e2 : (pre ++ [x]).map strv = pre.map strv ++ [strv x] := by simp
            refine ⟨pre ++ [x], p.length + 1, p.length + 1, ao', c', by rw [e1], by first | rfl | simp, by first | rfl | simp, Hn.out, by rw [e1]; omega, by omega, .inr ⟨by omega, by rw [Hcc.out]⟩, by simp only [rowS, e1, e2]; exact hF⟩
    · obtain ⟨_, hc⟩ := hst.resolve_left (by rintro ⟨_, h, _⟩; omega)
      have hall := Hall.out
      rw [← hc] at hall hE ⊢
      by_cases h6 : (cuts p).length ≤ 6
      · have R := SL.hid (split_good h0 hall h6)
        have hd : decide ((6 : Int) < ((cuts p).length : Int)) = false := decide_eq_false (by omega)
        clear h6 hall hc hst
        go_wp2
        go_ret2
        exact ⟨_, rfl, ao, c, by rw [R.out.1, R.out.2]; rfl, by rw [R.out.1]; exact hE⟩
      · have R := SL.hid (split_many h0 hall h6)
        have hd : (6 : Int) < ((cuts p).length : Int) := by omega
        clear h6 hall hc hst
        go_wp2
        go_ret2
        exact ⟨_, rfl, none, 0, by rw [R.out.1, R.out.2]; rfl, by rw [R.out.1]; exact hE.tail.nil _ _⟩
end Go.Proofs.YtohdljcpaogokaaDoor
