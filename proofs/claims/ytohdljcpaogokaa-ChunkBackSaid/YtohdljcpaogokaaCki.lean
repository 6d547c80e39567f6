/-
  Chunks that are known: what the law's own test at fixed chunks answers.
-/
import Derived.Test.YtohdljcpaogokaaCkh
import Derived.Lib.SlBytesConst
namespace Go.Proofs.Ytohdljcpaogokaa
open Go.RowKit Go.SL

theorem known1 : resC [1, 97, 98] = ⟨1, [97, 98], []⟩ ∧ errC [1, 97, 98] = 0 := by
  have h := takeC_put (c := ⟨1, [97, 98], []⟩) (by intro k hk; simp at hk) (by rfl)
  have e : putC ⟨1, [97, 98], []⟩ = [1, 97, 98] := rfl
  rw [e] at h
  unfold resC errC
  rw [h]
  exact ⟨rfl, rfl⟩
theorem known2 : resC [4] = ⟨0, [], []⟩ ∧ errC [4] = 3 := takeC_bad (by rfl)

theorem take_4 {ai : Option Addr} {ci : Nat} {l : List HProp} {w : World} (hE : Ent l w) (hk : Knows l (reads (.slice ai 1 ci) 1 (bvals [4]))) :
    Calls Try.prog 18 #[.slice ai 1 ci] w (Ret fun v w' => ∃ ao c, v = .tuple #[.agg #[.int .u8 0, .string ⟨#[]⟩, .slice ao 0 c], .int .i64 3] ∧ Ent (rowK ao c [] :: l) w') := by
  have H := cTake_any (bs := [4]) (by simp) hE hk
  rw [known2.1, known2.2] at H
  exact H

set_option maxRecDepth 100000 in
set_option maxHeartbeats 4000000 in
theorem wakes12_any {l : List HProp} {w : World} (hE : Ent l w) :
    Calls Try.prog 17 #[] w (Ret fun v w' => v = .bool true ∧ Ent l w') := by
  have p1 : putC ⟨1, [97, 98], []⟩ = [1, 97, 98] := rfl
  have p3 : putC ⟨3, [], []⟩ = [3, 0] := rfl
  have P1 := SL.hid p1
  have P3 := SL.hid p3
  have K1 := SL.hid known1
  have K2 := SL.hid known2
  have S1 := SL.hid (show sameC ⟨1, [97, 98], []⟩ ⟨1, [97, 98], []⟩ = true from rfl)
  clear p1 p3
  have kc := fun (w : World) (C : Array Value) (n c : Nat) => Lib.run_convert_bytes_const (P := Try.prog) w 42 5 C n c Try.underlying42 Try.underlying5
  go_enter Try.func17, Try.ntmps17
  go_wp2_with (first
    | go_skip
    | ((with_reducible (show Go.wpList _ _ _ (Go.Oper.mk _ (.alloc _) _ _ _ _ :: _) _ _)); refine wpl_alloc hE rfl rfl (by simp [go_sem]; rfl) ?_; clear hE; intro b1 w hE1; simp only [Act.eval, Act.put, List.setIfInBounds_toArray, List.set_cons_zero, List.set_cons_succ, getD_lit, List.getD_cons_succ, List.getD_cons_zero, Value.cells] at hE1)
    | ((with_reducible (show Go.wpList _ _ _ (Go.Oper.mk _ (.store _ (.tmp 1) _) _ _ _ _ :: _) _ _)); refine wpl_storeW hE1 0 rfl rfl rfl (xs := [.int .u8 1, .string ⟨#[97, 98]⟩, .slice none 0 0]) rfl rfl Try.sizeOf39 rfl (by simp [Value.oneCell']) rfl ?_; clear hE1; intro w hE2; simp only [List.set_cons_zero, List.set_cons_succ] at hE2)
    | ((with_reducible (show Go.wpList _ _ _ (Go.Oper.mk _ (.load _ (.tmp 1)) _ _ _ _ :: _) _ _)); refine wpl_loadW hE2 0 rfl rfl rfl rfl Try.isAgg39 Try.sizeOf39 (xs := [.int .u8 1, .string ⟨#[97, 98]⟩, .slice none 0 0]) rfl ?_)
    | (go_at_call 23; have H := cPut_yes (u := 1) (data := [97, 98]) (ks := []) (ao := none) (c := 0) (by simp) (by rfl) hE2 (fun _ _ => reads_nil 0 0 rfl _); rw [P1.out] at H; refine H.mono ?_; clear H hE2; rintro e w2 ⟨v, rfl, a2, c2, rfl, hE3⟩)
    | (go_at_call 18; have H := cTake_any (bs := [1, 97, 98]) (by simp) hE3 (fun W hW => reads_row hW 0 rfl); rw [K1.out.1, K1.out.2] at H; refine H.mono ?_; clear H hE3; rintro e w2 ⟨v, rfl, a4, c4, rfl, hE4⟩)
    | ((with_reducible (show Go.wpList _ _ _ (Go.Oper.mk _ (.alloc _) _ _ _ _ :: _) _ _)); refine wpl_alloc hE4 rfl rfl (by simp [go_sem]; rfl) ?_; clear hE4; intro b4 w hE5; simp only [Act.eval, Act.put, List.setIfInBounds_toArray, List.set_cons_zero, List.set_cons_succ, getD_lit, List.getD_cons_succ, List.getD_cons_zero, Value.cells] at hE5)
    | ((with_reducible (show Go.wpList _ _ _ (Go.Oper.mk _ (.store _ (.tmp 4) _) _ _ _ _ :: _) _ _)); refine wpl_storeW hE5 0 rfl rfl rfl (xs := [.int .u8 1, .string ⟨#[97, 98]⟩, .slice a4 0 c4]) rfl rfl Try.sizeOf39 rfl (by simp [Value.oneCell']) rfl ?_; clear hE5; intro w hE6; simp only [List.set_cons_zero, List.set_cons_succ] at hE6)
    | ((with_reducible (show Go.wpList _ _ _ (Go.Oper.mk _ (.alloc _) _ _ _ _ :: _) _ _)); refine wpl_alloc hE6 rfl rfl (by simp [go_sem]; rfl) ?_; clear hE6; intro b6 w hE7; simp only [Act.eval, Act.put, List.setIfInBounds_toArray, List.set_cons_zero, List.set_cons_succ, getD_lit, List.getD_cons_succ, List.getD_cons_zero, Value.cells] at hE7)
    | ((with_reducible (show Go.wpList _ _ _ (Go.Oper.mk _ (.store _ (.tmp 6) _) _ _ _ _ :: _) _ _)); refine wpl_storeW hE7 0 rfl rfl rfl (xs := [.int .u8 3, .string ⟨#[]⟩, .slice none 0 0]) rfl rfl Try.sizeOf39 rfl (by simp [Value.oneCell']) rfl ?_; clear hE7; intro w hE8; simp only [List.set_cons_zero, List.set_cons_succ] at hE8)
    | ((with_reducible (show Go.wpList _ _ _ (Go.Oper.mk _ (.load _ (.tmp 6)) _ _ _ _ :: _) _ _)); refine wpl_loadW hE8 0 rfl rfl rfl rfl Try.isAgg39 Try.sizeOf39 (xs := [.int .u8 3, .string ⟨#[]⟩, .slice none 0 0]) rfl ?_)
    | (go_at_call 23; have H := cPut_yes (u := 3) (data := []) (ks := []) (ao := none) (c := 0) (by simp) (by rfl) hE8 (fun _ _ => reads_nil 0 0 rfl _); rw [P3.out] at H; refine H.mono ?_; clear H hE8; rintro e w2 ⟨v, rfl, a7, c7, rfl, hE9⟩)
    | (go_at_call 23; have H := cPut_no (u := 2) (data := []) (ks := []) (ao := none) (c := 0) (by simp) (by simp) (by rfl) hE9 (fun _ _ => reads_nil 0 0 rfl _); refine H.mono ?_; clear H hE9; rintro e w2 ⟨v, rfl, rfl, hE10⟩)
    | (go_at_call 18; refine (take_4 (hE10.alloc (.cells #[.int .u8 4] 5 (1, 2))) (fun W hW => reads_pt hW 0 rfl (fun j u hu => by rw [Nat.zero_add, List.getElem?_toArray]; exact hu))).mono ?_; clear hE10; rintro e w2 ⟨v, rfl, ab, cb, rfl, hE11⟩)
    | ((with_reducible (show Go.wpList _ _ _ (Go.Oper.mk _ (.alloc _) _ _ _ _ :: _) _ _)); refine wpl_alloc hE11 rfl rfl (by simp [go_sem]; rfl) ?_; clear hE11; intro b11 w hE12; simp only [Act.eval, Act.put, List.setIfInBounds_toArray, List.set_cons_zero, List.set_cons_succ, getD_lit, List.getD_cons_succ, List.getD_cons_zero, Value.cells] at hE12)
    | ((with_reducible (show Go.wpList _ _ _ (Go.Oper.mk _ (.store _ (.tmp 11) _) _ _ _ _ :: _) _ _)); refine wpl_storeW hE12 0 rfl rfl rfl (xs := [.int .u8 0, .string ⟨#[]⟩, .slice ab 0 cb]) rfl rfl Try.sizeOf39 rfl (by simp [Value.oneCell']) rfl ?_; clear hE12; intro w hE13; simp only [List.set_cons_zero, List.set_cons_succ] at hE13)
    | (refine wpl_bytesStr (bs := [1, 97, 98]) rfl rfl rfl Try.underlying42 Try.underlying5 Try.underlying9 (reads_row hE13 7 rfl) rfl ?_)
    | ((with_reducible (show Go.wpList _ _ _ (Go.Oper.mk _ (.load _ (.tmp 1)) _ _ _ _ :: _) _ _)); refine wpl_loadW hE13 8 rfl rfl rfl rfl Try.isAgg39 Try.sizeOf39 (xs := [.int .u8 1, .string ⟨#[97, 98]⟩, .slice none 0 0]) rfl ?_)
    | ((with_reducible (show Go.wpList _ _ _ (Go.Oper.mk _ (.load _ (.tmp 4)) _ _ _ _ :: _) _ _)); refine wpl_loadW hE13 5 rfl rfl rfl rfl Try.isAgg39 Try.sizeOf39 (xs := [.int .u8 1, .string ⟨#[97, 98]⟩, .slice a4 0 c4]) rfl ?_)
    | (go_at_call 20; have H := Same_any (u1 := 1) (u2 := 1) (d1 := [97, 98]) (d2 := [97, 98]) (ks := []) (js := []) (ao := none) (c := 0) (bo := a4) (d := c4) (by simp) (by simp) (by simp) hE13 (fun _ _ => reads_nil 0 0 rfl _) (fun W hW => reads_row hW 6 rfl); rw [S1.out] at H; refine H.mono ?_; clear H hE13; rintro e w2 ⟨v, rfl, rfl, hF⟩)
    | (refine wpl_bytesStr (bs := [3, 0]) rfl rfl rfl Try.underlying42 Try.underlying5 Try.underlying9 (reads_row hF 3 rfl) rfl ?_)
    | ((with_reducible (show Go.wpList _ _ _ (Go.Oper.mk _ (.load _ (.tmp 6)) _ _ _ _ :: _) _ _)); refine wpl_loadW hF 4 rfl rfl rfl rfl Try.isAgg39 Try.sizeOf39 (xs := [.int .u8 3, .string ⟨#[]⟩, .slice none 0 0]) rfl ?_)
    | (go_at_call 24; have H := Height_any (u := 3) (data := []) (ks := []) (ao := none) (c := 0) (by simp) (by simp) hF (fun _ _ => reads_nil 0 0 rfl _); rw [show hgtB 3 [] = 1 from rfl] at H; refine H.mono ?_; clear H hF; rintro e w2 ⟨v, rfl, rfl, hG⟩)
    | ((with_reducible (show Go.wpList _ _ _ (Go.Oper.mk _ (.load _ (.tmp 1)) _ _ _ _ :: _) _ _)); refine wpl_loadW hG 8 rfl rfl rfl rfl Try.isAgg39 Try.sizeOf39 (xs := [.int .u8 1, .string ⟨#[97, 98]⟩, .slice none 0 0]) rfl ?_)
    | (go_at_call 24; have H := Height_any (u := 1) (data := [97, 98]) (ks := []) (ao := none) (c := 0) (by simp) (by simp) hG (fun _ _ => reads_nil 0 0 rfl _); rw [show hgtB 1 [] = 0 from rfl] at H; refine H.mono ?_; clear H hG; rintro e w2 ⟨v, rfl, rfl, hH⟩)
    | ((with_reducible (show Go.wpList _ _ _ (Go.Oper.mk _ (.load _ (.tmp 1)) _ _ _ _ :: _) _ _)); refine wpl_loadW hH 8 rfl rfl rfl rfl Try.isAgg39 Try.sizeOf39 (xs := [.int .u8 1, .string ⟨#[97, 98]⟩, .slice none 0 0]) rfl ?_)
    | (go_at_call 54; have H := Size_any (u := 1) (data := [97, 98]) (ks := []) (ao := none) (c := 0) (by simp) (by simp) (by simp) hH (fun _ _ => reads_nil 0 0 rfl _); rw [show sizeB 1 [97, 98] [] = 2 from rfl] at H; refine H.mono ?_; clear H hH; rintro e w2 ⟨v, rfl, rfl, hI⟩))
  go_ret
  exact ⟨_, rfl, rfl, hI.tail.tail.tail.tail.tail.tail.tail.tail.tail⟩
theorem six' {l : List HProp} {w : World} (hE : Ent l w) (i j : Nat) {b d : Nat} {v0 v1 v2 u0 u1 u2 : Value} {T T' : TypeId} {fz fz' : Nat × Nat} (hi : l[i]? = some (pt b (.cells #[v0, v1, v2] T fz))) (hj : l[j]? = some (pt d (.cells #[u0, u1, u2] T' fz'))) :
    (w.cell? ⟨b, 0, none⟩ = some v0 ∧ w.cell? ⟨b, 1, none⟩ = some v1 ∧ w.cell? ⟨b, 2, none⟩ = some v2) ∧ (w.cell? ⟨d, 0, none⟩ = some u0 ∧ w.cell? ⟨d, 1, none⟩ = some u1 ∧ w.cell? ⟨d, 2, none⟩ = some u2) :=
  ⟨⟨hE.cell i hi 0, hE.cell i hi 1, hE.cell i hi 2⟩, ⟨hE.cell j hj 0, hE.cell j hj 1, hE.cell j hj 2⟩⟩

end Go.Proofs.Ytohdljcpaogokaa
