/-
  The stage's theorem of the hash: the walk of its function.
-/
import Derived.Test.YtpchnmcofkffiaaDoorSh7
import Derived.Test.YtpchnmcofkffiaaDoorSh10
import Derived.Test.YtpchnmcofkffiaaDoorSle
import Derived.Deep.RegionHeld3
namespace Go.Proofs.YtpchnmcofkffiaaDoor
open Go.RowKit Go.SL

theorem known_abc {l : List HProp} {w : World} (ht : Knows l KTab) (hf : Knows l FTab) (hE : Ent l w) :
    Calls Tryd.prog 14 #[.string ⟨#[97, 98, 99]⟩, .string ⟨#[186, 120, 22, 191, 143, 1, 207, 234, 65, 65, 64, 222, 93, 174, 34, 35, 176, 3, 97, 163, 150, 23, 122, 156, 180, 16, 255, 97, 242, 0, 21, 173]⟩] w (Ret fun v w' => v = .bool true ∧ Ent l w') :=
  known_is (s := [97, 98, 99]) (t := known1) (by decide) sha_abc ht hf hE
theorem known_nil {l : List HProp} {w : World} (ht : Knows l KTab) (hf : Knows l FTab) (hE : Ent l w) :
    Calls Tryd.prog 14 #[.string ⟨#[]⟩, .string ⟨#[227, 176, 196, 66, 152, 252, 28, 20, 154, 251, 244, 200, 153, 111, 185, 36, 39, 174, 65, 228, 100, 155, 147, 76, 164, 149, 153, 27, 120, 82, 184, 85]⟩] w (Ret fun v w' => v = .bool true ∧ Ent l w') :=
  known_is (s := []) (t := known2) (by decide) sha_nil ht hf hE
theorem known_56 {l : List HProp} {w : World} (ht : Knows l KTab) (hf : Knows l FTab) (hE : Ent l w) :
    Calls Tryd.prog 14 #[.string ⟨#[97, 98, 99, 100, 98, 99, 100, 101, 99, 100, 101, 102, 100, 101, 102, 103, 101, 102, 103, 104, 102, 103, 104, 105, 103, 104, 105, 106, 104, 105, 106, 107, 105, 106, 107, 108, 106, 107, 108, 109, 107, 108, 109, 110, 108, 109, 110, 111, 109, 110, 111, 112, 110, 111, 112, 113]⟩, .string ⟨#[36, 141, 106, 97, 210, 6, 56, 184, 229, 192, 38, 147, 12, 62, 96, 57, 163, 60, 228, 89, 100, 255, 33, 103, 246, 236, 237, 212, 25, 219, 6, 193]⟩] w (Ret fun v w' => v = .bool true ∧ Ent l w') :=
  known_is (s := text3) (t := known3) (by decide) sha_56 ht hf hE
theorem known_mill {l : List HProp} {w : World} {k : Nat} {A : List UInt8} (hA : A = List.replicate k 97) (hk : k = 1000000) (ht : Knows l KTab) (hf : Knows l FTab) (hE : Ent l w) :
    Calls Tryd.prog 14 #[.string ⟨A.toArray⟩, .string ⟨#[205, 199, 110, 92, 153, 20, 251, 146, 129, 161, 199, 226, 132, 215, 62, 103, 241, 128, 154, 72, 164, 151, 32, 14, 4, 109, 57, 204, 199, 17, 44, 208]⟩] w (Ret fun v w' => v = .bool true ∧ Ent l w') :=
  known_is (s := A) (t := known4) (by rw [hA, List.length_replicate]; omega) (hA ▸ sha_million hk) ht hf hE

set_option maxRecDepth 100000 in
theorem wakes3_any {l : List HProp} {w : World} (ht : Knows l KTab) (hf : Knows l FTab) (hE : Ent l w) :
    Calls Tryd.prog 11 #[] w (Ret fun v w' => v = .bool true ∧ Ent l w') := by
  have Ht := SL.hid ht
  have Hf := SL.hid hf
  clear ht hf
  go_enter Tryd.func11, Tryd.ntmps11
  go_wp2_with (first
    | go_skip
    | (go_at_call 14; (with_reducible (refine (known_abc Ht.out Hf.out hE).mono ?_)); clear hE; rintro e w2 ⟨v, rfl, rfl, hE⟩)
    | (go_at_call 14; (with_reducible (refine (known_nil Ht.out Hf.out hE).mono ?_)); clear hE; rintro e w2 ⟨v, rfl, rfl, hE⟩))
  go_ret
  exact ⟨_, rfl, rfl, hE⟩

theorem reads_pre {w : World} {ao : Option Addr} {N c c' n : Nat} {xs : List Value} (h : reads (.slice ao N c) N xs w) (hx : xs.length = N) (hn : n ≤ N) : reads (.slice ao n c') n (xs.take n) w := by
  obtain ⟨ao', c0, e, h1, h2⟩ := h
  cases e
  refine ⟨ao, c', rfl, fun hnone => ?_, fun ad had j u hu => ?_⟩
  · obtain ⟨rfl, rfl⟩ := h1 hnone
    exact ⟨by omega, by simp⟩
  · rw [List.getElem?_take] at hu
    split at hu
    · exact h2 ad had j u hu
    · cases hu
theorem reads_head {w : World} {ao : Option Addr} {N c n : Nat} {xs ys : List UInt8} (h : reads (.slice ao N c) N (bvals xs) w) (hx : xs.length = N) (hn : n ≤ c) (hnN : n ≤ N) (hy : xs.take n = ys) : reads (.slice (cutAt 1 ao c 0) n c) n (bvals ys) w := by
  have h1 := reads_pre (c' := c) h (by rw [bvals_length]; exact hx) hnN
  have h2 := reads_cut (size := 1) (l := 0) (h := n) h1 (by rw [List.length_take, bvals_length, hx]; omega) (by omega) (Nat.le_refl _) hn
  rw [Nat.sub_zero, Nat.sub_zero, Nat.zero_mul, List.drop_zero, Nat.mul_one, List.take_take, Nat.min_self] at h2
  rw [← hy]
  rw [show (bvals xs).take n = bvals (xs.take n) by unfold bvals; rw [List.map_take]] at h2
  exact h2
theorem run_cut3 {P : Program} {w : World} {t e : TypeId} (ht : P.underlying t = some (.slice e)) (hs : ∀ w, (Go.sizeOf e).run P w = .ok 1 w) (ao : Option Addr) (n c hi : Nat) (h2 : hi ≤ c) :
    (Instr.slice t (.slice ao n c) none (some (.int .i64 hi)) (some (.int .i64 hi))).run P w = .ok (.slice (cutAt 1 ao hi 0) hi hi) w := by
  have a1 : ((hi : Int) ≤ (c : Int)) := by omega
  simp [Instr.slice, run_underlying ht, Instr.sliceBounds, Instr.sliceBound, asIntOf, hs, a1, h2, cutAt]
theorem row_cap {l : List HProp} {w : World} {ao : Option Addr} {c : Nat} {xs : List UInt8} (hE : Ent (rowB ao c xs :: l) w) : xs.length ≤ c := by
  by_cases h : xs.length = 0
  · omega
  · obtain ⟨g, cap, cur, hv, h1, _⟩ := hE.fromRow 0 rfl (by omega)
    cases hv; exact h1

def RowRel3 (l : List HProp) (r i : Value) (wr : World) : Prop :=
  ∃ (k : Nat) (ao : Option Addr) (c : Nat), k ≤ 1000000 ∧ i = .int .i64 k ∧ r = .slice ao k c ∧ Ent (row 5 1 (.slice ao k c) k (bvals (List.replicate k 97)) :: l) wr
def EachRel (A : List UInt8) (k : Nat) (ao : Option Addr) (c : Nat) (l : List HProp) (i : Value) (wr : World) : Prop :=
  ∃ n : Nat, n ≤ 140 ∧ i = .int .i64 n ∧ Ent (row 5 1 (.slice ao k c) k (bvals A) :: l) wr

set_option maxRecDepth 100000 in
set_option maxHeartbeats 1000000 in
theorem ShaKnown_any {l : List HProp} {w : World} {bh : List UInt8} {ab : Option Addr} {cb : Nat} (ht : Knows l KTab) (hf : Knows l FTab) (hk : Knows l (reads (.slice ab bh.length cb) bh.length (bvals bh))) (hE : Ent l w) :
    Calls Tryd.prog 6 #[.slice ab bh.length cb] w (Ret fun v w' => v = .bool true ∧ Ent l w') := by
  have Ht := SL.hid ht
  have Hf := SL.hid hf
  have Hk := SL.hid hk
  clear ht hf hk
  by_cases hg : 300 < bh.length
  · have hg' : (300 : Int) < (bh.length : Int) := by omega
    go_enter Tryd.func6, Tryd.ntmps6
    go_wp2_with (first
      | go_skip
      | (go_at_call 11; refine (wakes3_any Ht.out Hf.out hE).mono ?_; clear hE; rintro e w2 ⟨v, rfl, rfl, hE⟩))
    go_ret
    exact ⟨_, rfl, rfl, hE⟩
  · have hg' : ¬ (300 : Int) < (bh.length : Int) := by omega
    go_enter Tryd.func6, Tryd.ntmps6
    go_wp2_with (first | go_skip)
    go_loopw [3, 4] (fun r i wr => RowRel3 l r i wr) (fun _ i _ => 1000000 - (intOf i).toNat)
    case atStart => exact ⟨0, none, 0, Nat.zero_le _, rfl, rfl, hE.nil _ _⟩
    case round =>
      clear hE
      obtain ⟨k, ao, c, hk, rfl, rfl, hE⟩ := hrel
      by_cases hlt : k < 1000000
      · have ik : (k : Int) < 1000000 := by omega
        go_wp2_with (first
          | go_skip
          | ((with_reducible (show Go.wpList _ _ _ (Go.Oper.mk _ (.call _) _ _ _ _ :: _) _ _)); refine wpl_appendG (hE.alloc _) 1 rfl rfl rfl rfl rfl Tryd.underlying22 (size := 1) (bytes := 1) (by kernel_rfl) (by decide) (m := 1) (news := [.int .u8 97]) (reads_pt (hE.alloc _) 0 rfl (off := 0) (fun j u hu => by simpa using hu)) rfl (by simp [Value.oneCell']) (by omega) (by omega) ?_; clear hE; intro ao2 c2 w2 hE; simp only [List.set_cons_succ, List.set_cons_zero] at hE))
        go_roundw
        case rel => exact ⟨k + 1, ao2, c2, hlt, by simp, rfl, by rw [List.replicate_succ', bvals_append]; exact hE.tail⟩
        case measure => simp [intOf]; omega
      · have hm : k = 1000000 := by omega
        have Hm := SL.hid hm
        have ik : ¬ (k : Int) < 1000000 := by omega
        have h140 : 140 ≤ k := by omega
        have hkm : k ≤ 1099511627776 := by omega
        clear hm hk
        obtain ⟨A, hA⟩ : ∃ A, A = List.replicate k (97 : UInt8) := ⟨_, rfl⟩
        rw [← hA] at hE
        have hAl : A.length = k := by rw [hA, List.length_replicate]
        have HA := SL.hid hA
        have HAl := SL.hid hAl
        clear hA hAl
        go_wp2_with (first
          | go_skip
          | ((with_reducible (show Go.wpList _ _ _ (Go.Oper.mk _ (.convert 22 9 _) _ _ _ _ :: _) _ _)); refine wpl_bytesStr (bs := A) rfl rfl rfl Tryd.underlying22 Tryd.underlying5 Tryd.underlying9 (reads_row hE 0 rfl) HAl.out.symm ?_)
          | (go_at_call 14; (with_reducible (refine (known_mill HA.out Hm.out Ht.out.cons Hf.out.cons hE).mono ?_)); clear hE; rintro e w2 ⟨v, rfl, rfl, hE⟩)
          | (go_at_call 14; (with_reducible (refine (known_56 Ht.out.cons Hf.out.cons hE).mono ?_)); clear hE; rintro e w2 ⟨v, rfl, rfl, hE⟩))
        go_loopw [5] (fun i wr => EachRel A k ao c l i wr) (fun i _ => 140 - (intOf i).toNat)
        case atStart => exact ⟨0, Nat.zero_le _, rfl, hE⟩
        case round =>
          clear hE
          obtain ⟨n, hn, rfl, hE⟩ := hrel
          by_cases hn4 : n < 140
          · have inn : (n : Int) < 140 := by omega
            have nk : n ≤ k := by omega
            have hc : k ≤ c := by
              obtain ⟨g, cap, cur, hv, h1, _⟩ := hE.fromRow 0 rfl (by omega)
              cases hv; exact h1
            obtain ⟨B, hB⟩ : ∃ B, B = List.replicate n (97 : UInt8) := ⟨_, rfl⟩
            have hBl : B.length = n := by rw [hB, List.length_replicate]
            have hAB : A.take n = B := by rw [HA.out, hB, List.take_replicate, Nat.min_eq_left nk]
            have HB := SL.hid hBl
            have HAB := SL.hid hAB
            have Hrd : RowKit.Hid (∀ (wx : World) (F : List HProp), Ent (row 5 1 (.slice ao k c) k (bvals A) :: F) wx → reads (.slice (cutAt 1 ao c 0) n c) B.length (bvals B) wx) := SL.hid (fun wx F hx => by
              have h := reads_cut (size := 1) (l := 0) (h := n) (reads_row hx 0 rfl) (by rw [bvals_length, HAl.out, Nat.mul_one]) (by omega) nk hc
              rw [Nat.sub_zero, Nat.sub_zero, Nat.zero_mul, List.drop_zero, Nat.mul_one] at h
              rw [show (bvals A).take n = bvals B by unfold bvals; rw [← List.map_take, hAB]] at h
              rw [hBl]
              exact h)
            have HBr := SL.hid hB
            have lenB : B.length ≤ 140 := by omega
            have lenX : (B ++ bh).length ≤ 500 := by rw [List.length_append]; omega
            clear hB hBl hAB
            go_wp2_with (first
              | go_skip
              | ((with_reducible (show Go.wpList _ _ _ (Go.Oper.mk _ (.slice _ _ none (some _) none) _ _ _ _ :: _) _ _)); refine wpl_cut_hi rfl rfl rfl rfl n rfl Tryd.underlying22 Tryd.sizeOf5 (by omega) ?_; rw [Nat.sub_zero, Nat.sub_zero])
              | ((with_reducible (show Go.wpList _ _ _ (Go.Oper.mk _ (.call _) _ _ _ _ :: _) _ _)); refine wpl_appendB (hE2.nil 5 1) 0 (bs := []) rfl rfl rfl rfl rfl (ys := X) (reads_row hE2 0 rfl) (by rw [List.length_nil]; omega) ?_; clear hE2; intro a3 c3 w3 hE3; rw [List.nil_append] at hE3 ⊢; simp only [List.set_cons_zero] at hE3)
              | ((with_reducible (show Go.wpList _ _ _ (Go.Oper.mk _ (.call _) _ _ _ _ :: _) _ _)); refine wpl_appendB hE1 0 (bs := B) rfl rfl rfl rfl rfl (ys := bh) (Hk.out _ hE1.tail.tail) (by omega) ?_; clear hE1; intro a2 c2 w2 hE2; simp only [List.set_cons_zero] at hE2; generalize hX : B ++ bh = X at *; have HX := SL.hid hX; clear hX)
              | ((with_reducible (show Go.wpList _ _ _ (Go.Oper.mk _ (.call _) _ _ _ _ :: _) _ _)); refine wpl_appendB (hE.nil 5 1) 0 (bs := []) rfl rfl rfl rfl rfl (ys := B) (Hrd.out _ _ hE) (by rw [List.length_nil]; omega) ?_; clear hE; intro a1 c1 w1 hE1; rw [List.nil_append] at hE1 ⊢; simp only [List.set_cons_zero] at hE1))
            have hX2 : X.take n = B := by rw [← HX.out, List.take_left' HB.out]
            have hXn : n ≤ X.length := by rw [← HX.out, List.length_append, HB.out]; omega
            have hc2 : X.length ≤ c2 := row_cap hE3.tail
            have hc3 : X.length ≤ c3 := row_cap hE3
            have nc2 : n ≤ c2 := by omega
            have nc : n ≤ c := by omega
            have sl2 : ∀ w : World, (Instr.slice 22 (.slice a2 X.length c2) none (some (.int .i64 (n : Int))) none).run Tryd.prog w = .ok (.slice (cutAt 1 a2 c2 0) B.length c2) w := fun w => by
              have := run_cut_hi (P := Tryd.prog) (w := w) Tryd.underlying22 Tryd.sizeOf5 a2 X.length c2 .i64 n nc2
              rw [HB.out]; exact this
            have sl3 : ∀ w : World, (Instr.slice 22 (.slice ao k c) none (some (.int .i64 (n : Int))) none).run Tryd.prog w = .ok (.slice (cutAt 1 ao c 0) B.length c) w := fun w => by
              have := run_cut_hi (P := Tryd.prog) (w := w) Tryd.underlying22 Tryd.sizeOf5 ao k c .i64 n nc
              rw [HB.out]; exact this
            have sl4 : ∀ w : World, (Instr.slice 22 (.slice a2 X.length c2) none (some (.int .i64 (n : Int))) (some (.int .i64 (n : Int)))).run Tryd.prog w = .ok (.slice (cutAt 1 a2 n 0) B.length n) w := fun w => by
              have := run_cut3 (P := Tryd.prog) (w := w) Tryd.underlying22 Tryd.sizeOf5 a2 X.length c2 n nc2
              rw [HB.out]; exact this
            have sa := fun x lo hi mx (w : World) => sliceAt_slice (P := Tryd.prog) (w := w) Tryd.underlying22 x lo hi mx
            have Hr2 : RowKit.Hid (∀ (wx : World) (F : List HProp) (R : HProp), Ent (R :: rowB a2 c2 X :: F) wx → reads (.slice (cutAt 1 a2 c2 0) B.length c2) B.length (bvals B) wx) := SL.hid (fun wx F R hx => by
              rw [HB.out]; exact reads_head (reads_row hx 1 rfl) rfl nc2 hXn hX2)
            have Hr4 : RowKit.Hid (∀ (wx : World) (F : List HProp) (R : HProp), Ent (R :: rowB a2 c2 X :: F) wx → reads (.slice (cutAt 1 a2 n 0) B.length n) B.length (bvals B) wx) := SL.hid (fun wx F R hx => by
              rw [HB.out]; have := reads_pre (c' := n) (reads_row hx 1 rfl) (bvals_length X) hXn; rw [show (bvals X).take n = bvals B by unfold bvals; rw [← List.map_take, hX2]] at this; exact reads_head this HB.out (Nat.le_refl _) (Nat.le_refl _) (List.take_of_length_le (by rw [HB.out]; omega)))
            have Hr3 : RowKit.Hid (∀ (wx : World) (F : List HProp) (R S : HProp), Ent (R :: S :: row 5 1 (.slice ao k c) k (bvals A) :: F) wx → reads (.slice (cutAt 1 ao c 0) B.length c) B.length (bvals B) wx) := SL.hid (fun wx F R S hx => by
              rw [HB.out]; exact reads_head (reads_row hx 2 rfl) HAl.out nc nk HAB.out)
            have Hcv : RowKit.Hid (∀ (wx : World) (F : List HProp), Ent (rowB a3 c3 X :: rowB a2 c2 X :: F) wx → (convert 22 9 (.slice a2 X.length c2)).run Tryd.prog wx = .ok (.string ⟨X.toArray⟩) wx ∧ (convert 22 9 (.slice a3 X.length c3)).run Tryd.prog wx = .ok (.string ⟨X.toArray⟩) wx) := SL.hid (fun wx F hx =>
              ⟨bytesToString_reads (P := Tryd.prog) Tryd.underlying22 Tryd.underlying5 Tryd.underlying9 (reads_row hx 1 rfl) rfl, bytesToString_reads (P := Tryd.prog) Tryd.underlying22 Tryd.underlying5 Tryd.underlying9 (reads_row hx 0 rfl) rfl⟩)
            have hED := hE3.drew
            have bn2 : B.length ≤ c2 := by rw [HB.out]; exact nc2
            have bn3 : B.length ≤ c := by rw [HB.out]; exact nc
            have bn4 : B.length ≤ n := by rw [HB.out]; exact Nat.le_refl _
            have b40 : B.length ≤ 1099511627776 := by omega
            clear hX2 lenX lenB
            refine wp_region_held_drew (S := (fun w' => (convert 22 9 (.slice a2 X.length c2)).run Tryd.prog w' = .ok (.string ⟨X.toArray⟩) w' ∧ (convert 22 9 (.slice a3 X.length c3)).run Tryd.prog w' = .ok (.string ⟨X.toArray⟩) w')) (by kernel_rfl) (Hcv.out _ _ hED) (fun hS => ?_)
            refine wpAnyH_take (i := 0) (oi := { dst := some 37, op := Go.Op.move (Go.Operand.tmp 6), type := 22, pos := "law.go:46", after := #[], guard := none }) (v := ?_) rfl (by kernel_rfl) (by kernel_rfl) (by kernel_rfl) (fun _ _ _ h => h) (Or.inl ⟨by rfl, ?_⟩) hS ?_
            rotate_left
            · (intro w hSw; (try dsimp only at hSw); go_simp; (try with_reducible rfl))
            try simp only [Act.put, List.setIfInBounds_toArray, List.set_cons_zero, List.set_cons_succ]
            refine wpAnyH_take (i := 1) (oi := { dst := some 38, op := Go.Op.move (Go.Operand.tmp 5), type := 3, pos := "law.go:46", after := #[], guard := none }) (v := ?_) rfl (by kernel_rfl) (by kernel_rfl) (by kernel_rfl) (fun _ _ _ h => h) (Or.inl ⟨by rfl, ?_⟩) hS ?_
            rotate_left
            · (intro w hSw; (try dsimp only at hSw); go_simp; (try with_reducible rfl))
            try simp only [Act.put, List.setIfInBounds_toArray, List.set_cons_zero, List.set_cons_succ]
            refine wpAnyH_take (i := 2) (oi := { dst := some 39, op := Go.Op.slice 22 (Go.Operand.tmp 37) none (some (Go.Operand.tmp 38)) none, type := 22, pos := "law.go:46", after := #[{ on := 0, ground := Go.Ground.data }, { on := 1, ground := Go.Ground.data }], guard := none }) (v := ?_) rfl (by kernel_rfl) (by kernel_rfl) (by kernel_rfl) (fun _ _ _ h => h) (Or.inl ⟨by rfl, ?_⟩) hS ?_
            rotate_left
            · (intro w hSw; (try dsimp only at hSw); go_simp; (try with_reducible rfl))
            try simp only [Act.put, List.setIfInBounds_toArray, List.set_cons_zero, List.set_cons_succ]
            refine wpAnyH_take (i := 4) (oi := { dst := some 41, op := Go.Op.move (Go.Operand.tmp 3), type := 22, pos := "law.go:46", after := #[], guard := none }) (v := ?_) rfl (by kernel_rfl) (by kernel_rfl) (by kernel_rfl) (fun _ _ _ h => h) (Or.inl ⟨by rfl, ?_⟩) hS ?_
            rotate_left
            · (intro w hSw; (try dsimp only at hSw); go_simp; (try with_reducible rfl))
            try simp only [Act.put, List.setIfInBounds_toArray, List.set_cons_zero, List.set_cons_succ]
            refine wpAnyH_take (i := 5) (oi := { dst := some 42, op := Go.Op.move (Go.Operand.tmp 5), type := 3, pos := "law.go:46", after := #[], guard := none }) (v := ?_) rfl (by kernel_rfl) (by kernel_rfl) (by kernel_rfl) (fun _ _ _ h => h) (Or.inl ⟨by rfl, ?_⟩) hS ?_
            rotate_left
            · (intro w hSw; (try dsimp only at hSw); go_simp; (try with_reducible rfl))
            try simp only [Act.put, List.setIfInBounds_toArray, List.set_cons_zero, List.set_cons_succ]
            refine wpAnyH_take (i := 6) (oi := { dst := some 43, op := Go.Op.slice 22 (Go.Operand.tmp 41) none (some (Go.Operand.tmp 42)) none, type := 22, pos := "law.go:46", after := #[{ on := 4, ground := Go.Ground.data }, { on := 5, ground := Go.Ground.data }], guard := none }) (v := ?_) rfl (by kernel_rfl) (by kernel_rfl) (by kernel_rfl) (fun _ _ _ h => h) (Or.inl ⟨by rfl, ?_⟩) hS ?_
            rotate_left
            · (intro w hSw; (try dsimp only at hSw); go_simp; (try with_reducible rfl))
            try simp only [Act.put, List.setIfInBounds_toArray, List.set_cons_zero, List.set_cons_succ]
            refine wpAnyH_ready (rs := [3]) (by kernel_rfl) (by simp) ?_
            refine (AllReadyH.cons (o := { dst := some 40, op := Go.Op.call { callee := Go.Callee.value (Go.Operand.func 12), args := #[Go.Operand.tmp 39], argTypes := #[22] }, type := 32, pos := "law.go:46", after := #[{ on := 2, ground := Go.Ground.data }], guard := none }) rfl (fun K hK => ?_) AllReadyH.nil)
            (go_simp; go_at_call 12; have H := Sum_any (ao := cutAt 1 a2 c2 0) (c := c2) (bs := B) b40 bn2 Ht.out.cons.cons.cons Hf.out.cons.cons.cons (fun wx hx => Hr2.out wx _ _ hx) hED; refine H.mono ?_; clear H; rintro e w4 ⟨v, rfl, rfl, hE4⟩)
            refine hK.out _ _ (Hcv.out _ _ hE4) (fun hS => ?_)
            clear hK K
            try simp only [Act.put, List.setIfInBounds_toArray, List.set_cons_zero, List.set_cons_succ]
            refine wpAnyH_ready (rs := [7]) (by kernel_rfl) (by simp) ?_
            refine (AllReadyH.cons (o := { dst := some 44, op := Go.Op.call { callee := Go.Callee.value (Go.Operand.func 12), args := #[Go.Operand.tmp 43], argTypes := #[22] }, type := 32, pos := "law.go:46", after := #[{ on := 6, ground := Go.Ground.data }, { on := 3, ground := Go.Ground.chain }], guard := none }) rfl (fun K hK => ?_) AllReadyH.nil)
            (go_simp; go_at_call 12; have H := Sum_any (ao := cutAt 1 ao c 0) (c := c) (bs := B) b40 bn3 Ht.out.cons.cons.cons Hf.out.cons.cons.cons (fun wx hx => Hr3.out wx _ _ _ hx) hE4; refine H.mono ?_; clear H; rintro e w5 ⟨v, rfl, rfl, hE5⟩)
            refine hK.out _ _ (Hcv.out _ _ hE5) (fun hS => ?_)
            clear hK K
            try simp only [Act.put, List.setIfInBounds_toArray, List.set_cons_zero, List.set_cons_succ]
            refine wpAnyH_ready (rs := [8]) (by kernel_rfl) (by simp) ?_
            refine (AllReadyH.cons (o := { dst := some 45, op := Go.Op.binOp Go.BinOp.neq 32 (Go.Operand.tmp 40) (Go.Operand.tmp 44) 32, type := 4, pos := "law.go:46", after := #[{ on := 3, ground := Go.Ground.data }, { on := 7, ground := Go.Ground.data }], guard := none }) rfl (fun K hK => ?_) AllReadyH.nil)
            (refine step_neA (ys := shaV B) (zs := shaV B) (by rfl) (by rfl) (by rfl) (by rfl) Tryd.eqGuardType32 Tryd.underlying32 (by kernel_rfl) (by kernel_rfl) Tryd.underlying5 rfl rfl ?_; rw [beq_self_eq_true])
            refine hK.out _ _ hS (fun hS => ?_)
            clear hK K
            try simp only [Act.put, List.setIfInBounds_toArray, List.set_cons_zero, List.set_cons_succ]
            refine wpAnyH_take (i := 9) (oi := { dst := some 46, op := Go.Op.move (Go.Operand.tmp 45), type := 4, pos := "law.go:46", after := #[{ on := 8, ground := Go.Ground.data }, { on := 7, ground := Go.Ground.chain }], guard := none }) (v := ?_) rfl (by kernel_rfl) (by kernel_rfl) (by kernel_rfl) (fun _ _ _ h => h) (Or.inl ⟨by rfl, ?_⟩) hS ?_
            rotate_left
            · (intro w hSw; (try dsimp only at hSw); go_simp; (try with_reducible rfl))
            try simp only [Act.put, List.setIfInBounds_toArray, List.set_cons_zero, List.set_cons_succ]
            refine wpAnyH_take (i := 10) (oi := { dst := some 47, op := Go.Op.move (Go.Operand.tmp 6), type := 22, pos := "law.go:46", after := #[{ on := 9, ground := Go.Ground.guard }], guard := some (9, false) }) (v := ?_) rfl (by kernel_rfl) (by kernel_rfl) (by kernel_rfl) (fun _ _ _ h => h) (Or.inl ⟨by rfl, ?_⟩) hS ?_
            rotate_left
            · (intro w hSw; (try dsimp only at hSw); go_simp; (try with_reducible rfl))
            try simp only [Act.put, List.setIfInBounds_toArray, List.set_cons_zero, List.set_cons_succ]
            refine wpAnyH_take (i := 11) (oi := { dst := some 48, op := Go.Op.move (Go.Operand.tmp 5), type := 3, pos := "law.go:46", after := #[{ on := 9, ground := Go.Ground.guard }], guard := some (9, false) }) (v := ?_) rfl (by kernel_rfl) (by kernel_rfl) (by kernel_rfl) (fun _ _ _ h => h) (Or.inl ⟨by rfl, ?_⟩) hS ?_
            rotate_left
            · (intro w hSw; (try dsimp only at hSw); go_simp; (try with_reducible rfl))
            try simp only [Act.put, List.setIfInBounds_toArray, List.set_cons_zero, List.set_cons_succ]
            refine wpAnyH_take (i := 12) (oi := { dst := some 49, op := Go.Op.move (Go.Operand.tmp 5), type := 3, pos := "law.go:46", after := #[{ on := 9, ground := Go.Ground.guard }], guard := some (9, false) }) (v := ?_) rfl (by kernel_rfl) (by kernel_rfl) (by kernel_rfl) (fun _ _ _ h => h) (Or.inl ⟨by rfl, ?_⟩) hS ?_
            rotate_left
            · (intro w hSw; (try dsimp only at hSw); go_simp; (try with_reducible rfl))
            try simp only [Act.put, List.setIfInBounds_toArray, List.set_cons_zero, List.set_cons_succ]
            refine wpAnyH_take (i := 13) (oi := { dst := some 50, op := Go.Op.slice 22 (Go.Operand.tmp 47) none (some (Go.Operand.tmp 48)) (some (Go.Operand.tmp 49)), type := 22, pos := "law.go:46", after := #[{ on := 10, ground := Go.Ground.data }, { on := 11, ground := Go.Ground.data }, { on := 12, ground := Go.Ground.data }, { on := 9, ground := Go.Ground.guard }], guard := some (9, false) }) (v := ?_) rfl (by kernel_rfl) (by kernel_rfl) (by kernel_rfl) (fun _ _ _ h => h) (Or.inl ⟨by rfl, ?_⟩) hS ?_
            rotate_left
            · (intro w hSw; (try dsimp only at hSw); go_simp; (try with_reducible rfl))
            try simp only [Act.put, List.setIfInBounds_toArray, List.set_cons_zero, List.set_cons_succ]
            refine wpAnyH_take (i := 15) (oi := { dst := some 52, op := Go.Op.move (Go.Operand.tmp 3), type := 22, pos := "law.go:46", after := #[{ on := 9, ground := Go.Ground.guard }], guard := some (9, false) }) (v := ?_) rfl (by kernel_rfl) (by kernel_rfl) (by kernel_rfl) (fun _ _ _ h => h) (Or.inl ⟨by rfl, ?_⟩) hS ?_
            rotate_left
            · (intro w hSw; (try dsimp only at hSw); go_simp; (try with_reducible rfl))
            try simp only [Act.put, List.setIfInBounds_toArray, List.set_cons_zero, List.set_cons_succ]
            refine wpAnyH_take (i := 16) (oi := { dst := some 53, op := Go.Op.move (Go.Operand.tmp 5), type := 3, pos := "law.go:46", after := #[{ on := 9, ground := Go.Ground.guard }], guard := some (9, false) }) (v := ?_) rfl (by kernel_rfl) (by kernel_rfl) (by kernel_rfl) (fun _ _ _ h => h) (Or.inl ⟨by rfl, ?_⟩) hS ?_
            rotate_left
            · (intro w hSw; (try dsimp only at hSw); go_simp; (try with_reducible rfl))
            try simp only [Act.put, List.setIfInBounds_toArray, List.set_cons_zero, List.set_cons_succ]
            refine wpAnyH_take (i := 17) (oi := { dst := some 54, op := Go.Op.slice 22 (Go.Operand.tmp 52) none (some (Go.Operand.tmp 53)) none, type := 22, pos := "law.go:46", after := #[{ on := 15, ground := Go.Ground.data }, { on := 16, ground := Go.Ground.data }, { on := 9, ground := Go.Ground.guard }], guard := some (9, false) }) (v := ?_) rfl (by kernel_rfl) (by kernel_rfl) (by kernel_rfl) (fun _ _ _ h => h) (Or.inl ⟨by rfl, ?_⟩) hS ?_
            rotate_left
            · (intro w hSw; (try dsimp only at hSw); go_simp; (try with_reducible rfl))
            try simp only [Act.put, List.setIfInBounds_toArray, List.set_cons_zero, List.set_cons_succ]
            refine wpAnyH_ready (rs := [14]) (by kernel_rfl) (by simp) ?_
            refine (AllReadyH.cons (o := { dst := some 51, op := Go.Op.call { callee := Go.Callee.value (Go.Operand.func 12), args := #[Go.Operand.tmp 50], argTypes := #[22] }, type := 32, pos := "law.go:46", after := #[{ on := 13, ground := Go.Ground.data }, { on := 9, ground := Go.Ground.chain }, { on := 9, ground := Go.Ground.guard }], guard := some (9, false) }) rfl (fun K hK => ?_) AllReadyH.nil)
            (go_simp; go_at_call 12; have H := Sum_any (ao := cutAt 1 a2 n 0) (c := n) (bs := B) b40 bn4 Ht.out.cons.cons.cons Hf.out.cons.cons.cons (fun wx hx => Hr4.out wx _ _ hx) hE5; refine H.mono ?_; clear H; rintro e w6 ⟨v, rfl, rfl, hE6⟩)
            refine hK.out _ _ (Hcv.out _ _ hE6) (fun hS => ?_)
            clear hK K
            try simp only [Act.put, List.setIfInBounds_toArray, List.set_cons_zero, List.set_cons_succ]
            refine wpAnyH_ready (rs := [18]) (by kernel_rfl) (by simp) ?_
            refine (AllReadyH.cons (o := { dst := some 55, op := Go.Op.call { callee := Go.Callee.value (Go.Operand.func 12), args := #[Go.Operand.tmp 54], argTypes := #[22] }, type := 32, pos := "law.go:46", after := #[{ on := 17, ground := Go.Ground.data }, { on := 14, ground := Go.Ground.chain }, { on := 9, ground := Go.Ground.guard }], guard := some (9, false) }) rfl (fun K hK => ?_) AllReadyH.nil)
            (go_simp; go_at_call 12; have H := Sum_any (ao := cutAt 1 ao c 0) (c := c) (bs := B) b40 bn3 Ht.out.cons.cons.cons Hf.out.cons.cons.cons (fun wx hx => Hr3.out wx _ _ _ hx) hE6; refine H.mono ?_; clear H; rintro e w7 ⟨v, rfl, rfl, hE7⟩)
            refine hK.out _ _ (Hcv.out _ _ hE7) (fun hS => ?_)
            clear hK K
            try simp only [Act.put, List.setIfInBounds_toArray, List.set_cons_zero, List.set_cons_succ]
            refine wpAnyH_ready (rs := [19]) (by kernel_rfl) (by simp) ?_
            refine (AllReadyH.cons (o := { dst := some 56, op := Go.Op.binOp Go.BinOp.neq 32 (Go.Operand.tmp 51) (Go.Operand.tmp 55) 32, type := 4, pos := "law.go:46", after := #[{ on := 14, ground := Go.Ground.data }, { on := 18, ground := Go.Ground.data }, { on := 9, ground := Go.Ground.guard }], guard := some (9, false) }) rfl (fun K hK => ?_) AllReadyH.nil)
            (refine step_neA (ys := shaV B) (zs := shaV B) (by rfl) (by rfl) (by rfl) (by rfl) Tryd.eqGuardType32 Tryd.underlying32 (by kernel_rfl) (by kernel_rfl) Tryd.underlying5 rfl rfl ?_; rw [beq_self_eq_true])
            refine hK.out _ _ hS (fun hS => ?_)
            clear hK K
            try simp only [Act.put, List.setIfInBounds_toArray, List.set_cons_zero, List.set_cons_succ]
            refine wpAnyH_take (i := 20) (oi := { dst := some 57, op := Go.Op.pick (Go.Operand.tmp 46) (Go.Operand.const (Go.Value.bool true)) (Go.Operand.tmp 56), type := 4, pos := "law.go:46", after := #[{ on := 9, ground := Go.Ground.data }, { on := 19, ground := Go.Ground.data }], guard := none }) (v := ?_) rfl (by kernel_rfl) (by kernel_rfl) (by kernel_rfl) (fun _ _ _ h => h) (Or.inl ⟨by rfl, ?_⟩) hS ?_
            rotate_left
            · (intro w hSw; (try dsimp only at hSw); go_simp; (try with_reducible rfl))
            try simp only [Act.put, List.setIfInBounds_toArray, List.set_cons_zero, List.set_cons_succ]
            refine wpAnyH_take (i := 21) (oi := { dst := some 58, op := Go.Op.move (Go.Operand.tmp 57), type := 4, pos := "law.go:46", after := #[{ on := 20, ground := Go.Ground.data }, { on := 18, ground := Go.Ground.chain }], guard := none }) (v := ?_) rfl (by kernel_rfl) (by kernel_rfl) (by kernel_rfl) (fun _ _ _ h => h) (Or.inl ⟨by rfl, ?_⟩) hS ?_
            rotate_left
            · (intro w hSw; (try dsimp only at hSw); go_simp; (try with_reducible rfl))
            try simp only [Act.put, List.setIfInBounds_toArray, List.set_cons_zero, List.set_cons_succ]
            refine wpAnyH_take (i := 22) (oi := { dst := some 59, op := Go.Op.move (Go.Operand.tmp 6), type := 22, pos := "law.go:46", after := #[{ on := 21, ground := Go.Ground.guard }], guard := some (21, false) }) (v := ?_) rfl (by kernel_rfl) (by kernel_rfl) (by kernel_rfl) (fun _ _ _ h => h) (Or.inl ⟨by rfl, ?_⟩) hS ?_
            rotate_left
            · (intro w hSw; (try dsimp only at hSw); go_simp; (try with_reducible rfl))
            try simp only [Act.put, List.setIfInBounds_toArray, List.set_cons_zero, List.set_cons_succ]
            refine wpAnyH_take (i := 23) (oi := { dst := some 60, op := Go.Op.convert 22 9 (Go.Operand.tmp 59), type := 9, pos := "law.go:46", after := #[{ on := 22, ground := Go.Ground.data }, { on := 21, ground := Go.Ground.guard }], guard := some (21, false) }) (v := ?_) rfl (by kernel_rfl) (by kernel_rfl) (by kernel_rfl) (fun _ _ _ h => h) (Or.inl ⟨by rfl, ?_⟩) hS ?_
            rotate_left
            · (intro w hSw; (try dsimp only at hSw); go_simp; (try with_reducible rfl))
            try simp only [Act.put, List.setIfInBounds_toArray, List.set_cons_zero, List.set_cons_succ]
            refine wpAnyH_take (i := 24) (oi := { dst := some 61, op := Go.Op.move (Go.Operand.tmp 7), type := 22, pos := "law.go:46", after := #[{ on := 21, ground := Go.Ground.guard }], guard := some (21, false) }) (v := ?_) rfl (by kernel_rfl) (by kernel_rfl) (by kernel_rfl) (fun _ _ _ h => h) (Or.inl ⟨by rfl, ?_⟩) hS ?_
            rotate_left
            · (intro w hSw; (try dsimp only at hSw); go_simp; (try with_reducible rfl))
            try simp only [Act.put, List.setIfInBounds_toArray, List.set_cons_zero, List.set_cons_succ]
            refine wpAnyH_take (i := 25) (oi := { dst := some 62, op := Go.Op.convert 22 9 (Go.Operand.tmp 61), type := 9, pos := "law.go:46", after := #[{ on := 24, ground := Go.Ground.data }, { on := 21, ground := Go.Ground.guard }], guard := some (21, false) }) (v := ?_) rfl (by kernel_rfl) (by kernel_rfl) (by kernel_rfl) (fun _ _ _ h => h) (Or.inl ⟨by rfl, ?_⟩) hS ?_
            rotate_left
            · (intro w hSw; (try dsimp only at hSw); go_simp; (try with_reducible rfl))
            try simp only [Act.put, List.setIfInBounds_toArray, List.set_cons_zero, List.set_cons_succ]
            refine wpAnyH_take (i := 26) (oi := { dst := some 63, op := Go.Op.binOp Go.BinOp.neq 9 (Go.Operand.tmp 60) (Go.Operand.tmp 62) 9, type := 4, pos := "law.go:46", after := #[{ on := 23, ground := Go.Ground.data }, { on := 25, ground := Go.Ground.data }, { on := 21, ground := Go.Ground.guard }], guard := some (21, false) }) (v := ?_) rfl (by kernel_rfl) (by kernel_rfl) (by kernel_rfl) (fun _ _ _ h => h) (Or.inl ⟨by rfl, ?_⟩) hS ?_
            rotate_left
            · (intro w hSw; (try dsimp only at hSw); go_simp; (try with_reducible rfl))
            try simp only [Act.put, List.setIfInBounds_toArray, List.set_cons_zero, List.set_cons_succ]
            refine wpAnyH_take (i := 27) (oi := { dst := some 64, op := Go.Op.pick (Go.Operand.tmp 58) (Go.Operand.const (Go.Value.bool true)) (Go.Operand.tmp 63), type := 4, pos := "law.go:46", after := #[{ on := 21, ground := Go.Ground.data }, { on := 26, ground := Go.Ground.data }], guard := none }) (v := ?_) rfl (by kernel_rfl) (by kernel_rfl) (by kernel_rfl) (fun _ _ _ h => h) (Or.inl ⟨by rfl, ?_⟩) hS ?_
            rotate_left
            · (intro w hSw; (try dsimp only at hSw); go_simp; (try with_reducible rfl))
            try simp only [Act.put, List.setIfInBounds_toArray, List.set_cons_zero, List.set_cons_succ]
            refine wpAnyH_done (by kernel_rfl) ?_ _
            clear sl2 sl3 sl4 sa hS
            go_wp2_with (first | go_skip)
            go_roundw
            case rel => exact ⟨n + 1, hn4, by simp, hE7.tail.tail⟩
            case measure => simp [intOf]; omega
          · obtain rfl : n = 140 := by omega
            simp only [show ((140 : Nat) : Int) = 140 from rfl]
            go_wp2_with (first
              | go_skip
              | (go_at_call 11; refine (wakes3_any Ht.out.cons Hf.out.cons hE).mono ?_; clear hE; rintro e w2 ⟨v, rfl, rfl, hE⟩))
            go_ret
            exact ⟨_, rfl, rfl, hE.tail⟩
end Go.Proofs.YtpchnmcofkffiaaDoor
