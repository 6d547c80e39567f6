/-
  A copy of the disk; the law's sectors of one byte, and the disk that is known.
-/
import Derived.Test.YtpchnmcofkffiaaDk5
import Derived.Test.YtpchnmcofkffiaaDk6
namespace Go.Proofs.Ytpchnmcofkffiaa
open Go.RowKit Go.SL

set_option maxRecDepth 100000 in
theorem CloneS_any {l : List HProp} {w : World} {ao : Option Addr} {n c : Nat} {xs : List Value} (i : Nat) (h0 : 0 < n) (hn : n ≤ 4096) (hx : xs.length = n * 512) (h1 : ∀ u ∈ xs, u.oneCell' = true) (hi : l[i]? = some (row 114 512 (.slice ao n c) n xs)) (hE : Ent l w) :
    Calls Try.prog 79 #[.slice ao n c] w (Ret fun v w' => ∃ ao' c', v = .slice ao' n c' ∧ Ent (row 114 512 (.slice ao' n c') n xs :: l) w') := by
  obtain ⟨g, rfl, _, _⟩ := hE.rowIs i hi h0
  have hq : ∀ w, (binOp .eql 109 (.slice (some ⟨g, 0, none⟩) n c) (.slice none 0 0)).run Try.prog w = .ok (.bool false) w := fun w => Go.Lib.run_eql_slice_nil w _ _ _ _ _ _ _ Try.underlying109
  have Hi := SL.hid hi
  have Hx := SL.hid hx
  clear hi hx
  go_enter Try.func79, Try.ntmps79
  go_wp2_with (first
    | go_skip
    | (at_builtin; refine wpl_appendG ((hE.alloc _).toRow 0 rfl (size := 512) (n := 0) (cap := 0) (xs := []) rfl (Nat.le_refl _) (by decide) rfl rfl) 0 rfl rfl rfl rfl rfl Try.underlying109 info_sector (by decide) (m := n) (news := xs) (reads_row ((hE.alloc _).toRow 0 rfl (size := 512) (n := 0) (cap := 0) (xs := []) rfl (Nat.le_refl _) (by decide) rfl rfl) (i + 1) Hi.out) Hx.out h1 (by omega) (by omega) ?_; intro ao1 c1 w1 hE1))
  go_ret
  simp only [Nat.zero_add, List.nil_append, List.set_cons_zero] at hE1
  exact ⟨_, rfl, ao1, c1, by simp, hE1⟩
set_option maxRecDepth 100000 in
theorem CloneW_any {l : List HProp} {w : World} {ao : Option Addr} {n c : Nat} {xs : List Value} (i : Nat) (h0 : 0 < n) (hn : n ≤ 1000000) (hx : xs.length = n * 513) (h1 : ∀ u ∈ xs, u.oneCell' = true) (hi : l[i]? = some (row 116 513 (.slice ao n c) n xs)) (hE : Ent l w) :
    Calls Try.prog 80 #[.slice ao n c] w (Ret fun v w' => ∃ ao' c', v = .slice ao' n c' ∧ Ent (row 116 513 (.slice ao' n c') n xs :: l) w') := by
  obtain ⟨g, rfl, _, _⟩ := hE.rowIs i hi h0
  have hq : ∀ w, (binOp .eql 110 (.slice (some ⟨g, 0, none⟩) n c) (.slice none 0 0)).run Try.prog w = .ok (.bool false) w := fun w => Go.Lib.run_eql_slice_nil w _ _ _ _ _ _ _ Try.underlying110
  have Hi := SL.hid hi
  have Hx := SL.hid hx
  clear hi hx
  go_enter Try.func80, Try.ntmps80
  go_wp2_with (first
    | go_skip
    | (at_builtin; refine wpl_appendG ((hE.alloc _).toRow 0 rfl (size := 513) (n := 0) (cap := 0) (xs := []) rfl (Nat.le_refl _) (by decide) rfl rfl) 0 rfl rfl rfl rfl rfl Try.underlying110 info_write (by decide) (m := n) (news := xs) (reads_row ((hE.alloc _).toRow 0 rfl (size := 513) (n := 0) (cap := 0) (xs := []) rfl (Nat.le_refl _) (by decide) rfl rfl) (i + 1) Hi.out) Hx.out h1 (by omega) (by omega) ?_; intro ao1 c1 w1 hE1))
  go_ret
  simp only [Nat.zero_add, List.nil_append, List.set_cons_zero] at hE1
  exact ⟨_, rfl, ao1, c1, by simp, hE1⟩
set_option maxRecDepth 100000 in
theorem CloneW_none {l : List HProp} {w : World} {ao : Option Addr} {c : Nat} (hE : Ent l w) :
    Calls Try.prog 80 #[.slice ao 0 c] w (Ret fun v w' => ∃ ao' c', v = .slice ao' 0 c' ∧ Ent (row 116 513 (.slice ao' 0 c') 0 [] :: l) w') := by
  cases ao with
  | none =>
    have hq : ∀ w, (binOp .eql 110 (.slice none 0 c) (.slice none 0 0)).run Try.prog w = .ok (.bool true) w := fun w => Go.Lib.run_eql_slice_nil w _ _ _ _ _ _ _ Try.underlying110
    go_enter Try.func80, Try.ntmps80
    go_wp2_with (first | go_skip)
    go_ret
    exact ⟨_, rfl, none, 0, rfl, hE.nil _ _⟩
  | some ad =>
    have hq : ∀ w, (binOp .eql 110 (.slice (some ad) 0 c) (.slice none 0 0)).run Try.prog w = .ok (.bool false) w := fun w => Go.Lib.run_eql_slice_nil w _ _ _ _ _ _ _ Try.underlying110
    go_enter Try.func80, Try.ntmps80
    go_wp2_with (first
      | go_skip
      | (at_builtin; refine wpl_appendG ((hE.alloc _).toRow 0 rfl (size := 513) (n := 0) (cap := 0) (xs := []) rfl (Nat.le_refl _) (by decide) rfl rfl) 0 rfl rfl rfl rfl rfl Try.underlying110 info_write (by decide) (m := 0) (news := []) (show reads (.slice (some ad) 0 c) 0 [] _ from ⟨_, _, rfl, fun _ => ⟨rfl, rfl⟩, fun _ _ j u h => by simp at h⟩) rfl (by simp) (by omega) (by omega) ?_; intro ao1 c1 w1 hE1))
    go_ret
    simp only [Nat.zero_add, List.nil_append, List.set_cons_zero, List.append_nil] at hE1
    exact ⟨_, rfl, ao1, c1, by simp, hE1⟩

theorem CloneW_all {l : List HProp} {w : World} {s : DS} {aw : Option Addr} {d : Nat} (hg : s.good) (hn : s.wait.length ≤ 1000000) (i : Nat) (hi : l[i]? = some (row 116 513 (.slice aw s.wait.length d) s.wait.length (s.wait.flatMap wcells))) (hE : Ent l w) :
    Calls Try.prog 80 #[.slice aw s.wait.length d] w (Ret fun v w' => ∃ ao' c', v = .slice ao' s.wait.length c' ∧ Ent (row 116 513 (.slice ao' s.wait.length c') s.wait.length (s.wait.flatMap wcells) :: l) w') := by
  rcases Nat.eq_zero_or_pos s.wait.length with h0 | h0
  · rw [h0, List.eq_nil_of_length_eq_zero h0]
    exact CloneW_none hE
  · exact CloneW_any i h0 hn (by rw [flatMap_len' wcells 513 _ (fun x hx => wcells_len x (hg.wait x hx).1)]) (fun u hu => by obtain ⟨x, _, h⟩ := List.mem_flatMap.1 hu; exact wcells_one x u h) hi hE
theorem CloneS_all {l : List HProp} {w : World} {s : DS} {ao : Option Addr} {c : Nat} (hg : s.good) (h0 : 0 < s.on.length) (i : Nat) (hi : l[i]? = some (row 114 512 (.slice ao s.on.length c) s.on.length (s.on.flatMap bvals))) (hE : Ent l w) :
    Calls Try.prog 79 #[.slice ao s.on.length c] w (Ret fun v w' => ∃ ao' c', v = .slice ao' s.on.length c' ∧ Ent (row 114 512 (.slice ao' s.on.length c') s.on.length (s.on.flatMap bvals) :: l) w') :=
  CloneS_any i h0 hg.size (by rw [flatMap_len' bvals 512 _ (bv512 hg)]) (fun u hu => by obtain ⟨x, _, h⟩ := List.mem_flatMap.1 hu; exact bvals_one x u h) hi hE

set_option maxRecDepth 100000 in
set_option maxHeartbeats 1000000 in
theorem Copy_any {l : List HProp} {w : World} {p : Nat} {s : DS} (hg : s.good) (h0 : 0 < s.on.length) (hn : s.wait.length ≤ 1000000) (hE : Ent (disk p s :: l) w) :
    Calls Try.prog 44 #[.pointer (some ⟨p, 0, none⟩)] w (Ret fun v w' => ∃ q, v = .pointer (some ⟨q, 0, none⟩) ∧ Ent (disk q s :: disk p s :: l) w') := by
  obtain ⟨ao, c, aw, d, hE⟩ := disk_open hE
  go_enter Try.func44, Try.ntmps44
  go_wp2_with (first
    | go_skip
    | (refine wpl_loadW hE 0 rfl rfl rfl rfl Try.isAgg112 Try.sizeOf112 rfl ?_)
    | (refine wpl_allocN hE rfl rfl (n := 6) (by kernel_rfl) ?_; intro q cs w1 hq hE1; clear hE)
    | (refine wpl_storeN hE1 0 rfl rfl rfl rfl rfl Try.sizeOf112 rfl (by simp [Value.oneCell']) hq ?_; clear hE1; intro w2 hE; simp only [List.set_cons_zero] at hE))
  have hED := hE.drew
  have d2 := hED.cell 1 rfl 2
  have d3 := hED.cell 1 rfl 3
  simp only [List.getElem?_toArray, List.getElem?_cons_zero, List.getElem?_cons_succ] at d2 d3
  go_region_law (first
    | (go_simp; (refine (CloneS_all (s := s) hg h0 2 rfl hED).mono ?_); (rintro e w3 ⟨v, rfl, ao', c', rfl, hE3⟩); have d4 := hE3.cell 2 rfl 3)
    | (go_simp; (refine (CloneW_all (s := s) hg hn 4 rfl hE3).mono ?_); (rintro e w4 ⟨v, rfl, aw', d', rfl, hE4⟩); have f2 := hE4.frozen 2 rfl 2; have f3 := hE4.frozen 2 rfl 3; have f4 := hE4.cell 2 rfl 2; have f5 := hE4.cell 2 rfl 3))
  all_goals
    go_wp2
    go_ret
    have hA := ((((hE4.setCell 2 rfl 2 (.slice ao' s.on.length c')).setCell 2 rfl 3 (.slice aw' s.wait.length d')).front 1 rfl).front 2 rfl)
    have hB := ((((hE4.setCell 2 rfl 3 (.slice aw' s.wait.length d')).setCell 2 rfl 2 (.slice ao' s.on.length c')).front 1 rfl).front 2 rfl)
    first
      | exact ⟨_, rfl, q, rfl, (disk_close ((((disk_close (s := s) hA).front 3 rfl).front 3 rfl).front 3 rfl)).front 1 rfl⟩
      | exact ⟨_, rfl, q, rfl, (disk_close ((((disk_close (s := s) hB).front 3 rfl).front 3 rfl).front 3 rfl)).front 1 rfl⟩

theorem Copy_nil {l : List HProp} {w : World} (hE : Ent l w) :
    Calls Try.prog 44 #[.pointer none] w (Ret fun v w' => v = .pointer none ∧ Ent l w') := by
  go_enter Try.func44, Try.ntmps44
  go_wp2_with (first | go_skip)
  go_ret
  exact ⟨_, rfl, rfl, hE⟩

theorem fullSec_cells (c : UInt8) : bvals (fullSec c) = List.replicate 512 (bval c) := by unfold fullSec bvals; rw [List.map_replicate]

def FullRel (x : UInt8) (g : Nat) (l : List HProp) (i : Value) (wr : World) : Prop :=
  ∃ k : Nat, k ≤ 512 ∧ i = .int .i64 k ∧ Ent (row 5 1 (.slice (some ⟨g, 0, none⟩) 512 512) 512 (List.replicate k (bval x) ++ List.replicate (512 - k) (.int .u8 0)) :: l) wr

theorem full_step (x : Value) (k : Nat) (h : k < 512) : splice (List.replicate k x ++ List.replicate (512 - k) (.int .u8 0)) k [x] = List.replicate (k + 1) x ++ List.replicate (512 - (k + 1)) (.int .u8 0) := by
  apply List.ext_getElem?
  intro j
  rw [splice_get _ _ _ _ (by simp; try omega)]
  by_cases h1 : j < k
  · rw [if_pos h1, List.getElem?_append_left (by simp; try omega), List.getElem?_append_left (by simp; try omega)]
    simp [h1, show j < k + 1 by omega]
  · rw [if_neg h1]
    by_cases h2 : j < k + 1
    · have e : j = k := by omega
      subst e
      rw [if_pos (by simp), List.getElem?_append_left (by simp)]
      simp
    · rw [if_neg (by simpa using h2), List.getElem?_append_right (by simp; try omega), List.getElem?_append_right (by simp; try omega)]
      simp [List.getElem?_replicate]
      by_cases h3 : j < 512
      · rw [if_pos (by omega), if_pos (by omega)]
      · rw [if_neg (by omega), if_neg (by omega)]

set_option maxRecDepth 100000 in
theorem Full_any {l : List HProp} {w : World} (x : UInt8) (hE : Ent l w) :
    Calls Try.prog 33 #[.int .u8 x.toNat] w (Ret fun v w' => ∃ g, v = .slice (some ⟨g, 0, none⟩) 512 512 ∧ Ent (rowB (some ⟨g, 0, none⟩) 512 (fullSec x) :: l) w') := by
  have hz : zeroList Try.prog 5 = some ([.int .u8 0], 1, 1) := by kernel_rfl
  go_enter Try.func33, Try.ntmps33
  go_wp2_with (first
    | go_skip
    | (refine wpl_make hE rfl rfl Try.underlying33 hz rfl (by decide) 512 rfl rfl (by decide) (by decide) ?_; clear hE; intro g w1 hE))
  clear hz
  have e0 : (List.replicate 512 [Value.int .u8 0]).flatten = List.replicate 0 (bval x) ++ List.replicate (512 - 0) (.int .u8 0) := by
    simp
  rw [e0] at hE
  go_loopw [4] (fun i wr => FullRel x g l i wr) (fun i _ => 512 - (intOf i).toNat)
  case atStart => exact ⟨0, by omega, rfl, hE⟩
  case round =>
    clear hE e0
    obtain ⟨k, hk, rfl, hE⟩ := hrel
    by_cases hlt : k < 512
    · go_wp2_with (first
        | go_skip
        | (refine wpl_storeRow hE 0 (v := bval x) rfl rfl rfl rfl rfl Try.sizeOf5 (ys := [bval x]) rfl rfl (by simp [bval, Value.oneCell']) (by omega) ?_; clear hE; intro w2 hE; simp only [List.set_cons_zero] at hE))
      go_roundw
      case rel => exact ⟨k + 1, hlt, by simp, by rw [full_step _ k hlt] at hE; exact hE⟩
      case measure => simp [intOf]; omega
    · have hk2 : k = 512 := by omega
      subst hk2
      rw [show 512 - 512 = 0 from rfl, List.replicate_zero, List.append_nil, ← fullSec_cells] at hE
      go_wp2
      go_ret
      refine ⟨_, rfl, g, rfl, ?_⟩
      unfold rowB
      rw [fullSec_length]
      exact hE
end Go.Proofs.Ytpchnmcofkffiaa
