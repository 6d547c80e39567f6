/-
  The stage's theorem of the changes. (Printed by gen_ds4.py.)
-/
import Derived.Test.YtcpgelpajppgdaaDoorDiffTF7
namespace Go.Proofs.YtcpgelpajppgdaaDoor
open Go.RowKit Go.SL

set_option maxRecDepth 100000 in
set_option maxHeartbeats 8000000 in
theorem back_not {xs : List En} {ys : List En} {a_xs : Option Addr} {c_xs : Nat} {a_ys : Option Addr} {c_ys : Nat} {b1 : Bool} {b2 : Bool} (h1 : (treeP xs).isSome = b1) (h2 : (treeP ys).isSome = b2) (hn : b1 = false ∨ b2 = false) {l : List HProp} {w : World} (h_xs : Knows l (reads (.slice a_xs xs.length c_xs) xs.length (xs.flatMap enC))) (h_ys : Knows l (reads (.slice a_ys ys.length c_ys) ys.length (ys.flatMap enC))) (hE : Ent l w) :
    Calls Tryd.prog 6 #[.slice a_xs xs.length c_xs, .slice a_ys ys.length c_ys] w (Ret fun v w' => v = .bool true ∧ Ent l w') := by
  have HT1 := SL.hid (fun (L : List HProp) (w : World) (hs : l <:+ L) (h : Ent L w) => Tree_tf h1 (h_xs.suf hs) h)
  have HT2 := SL.hid (fun (L : List HProp) (w : World) (hs : l <:+ L) (h : Ent L w) => Tree_tf h2 (h_ys.suf hs) h)
  clear h1 h2 h_xs h_ys
  have A1 := SL.hid True.intro
  have A2 := SL.hid True.intro
  cases b1 <;> cases b2
  case' true.true =>
    exfalso
    simp at hn
  all_goals
    clear hn
    go_enter Tryd.func6, Tryd.ntmps6
    go_wp2_with (first
      | go_skip
      | (clear A1; go_at_call 8; refine (HT1.out _ _ sfx hE).mono ?_; clear hE; rintro e w2 ⟨v, h1, m, d, s, a, n, c, a', n', c', h2, hE⟩; cases h1; cases h2)
      | (clear A2; go_at_call 8; refine (HT2.out _ _ sfx hE).mono ?_; clear hE; rintro e w2 ⟨v, h1, m, d, s, a, n, c, a', n', c', h2, hE⟩; cases h1; cases h2)
      | ((with_reducible (show Go.wpList _ _ _ (Go.Oper.mk _ (.alloc 25) _ _ _ _ :: _) _ _)); refine wpl_alloc hE rfl rfl (by simp [go_sem]; rfl) ?_; clear hE; intro b w hE; simp only [Act.eval, Act.put, List.setIfInBounds_toArray, List.set_cons_zero, List.set_cons_succ, getD_lit, List.getD_cons_succ, List.getD_cons_zero, Value.cells] at hE)
      | ((with_reducible (show Go.wpList _ _ _ (Go.Oper.mk _ (.store 25 _ _) _ _ _ _ :: _) _ _)); refine wpl_storeW hE 0 rfl rfl rfl (xs := [_, _, _]) rfl rfl Tryd.sizeOf25 rfl (by simp [Value.oneCell']) rfl ?_; clear hE; intro w hE; simp only [List.set_cons_zero] at hE)
      | (go_at_call 9; refine (wakes28_any hE).mono ?_; clear hE; rintro e w2 ⟨v, h1, h2, m9, hE⟩; cases h1; cases h2))
    refine bodyPost_ret (results_tmp rfl _ _ _) rfl ?_
    exact ⟨_, rfl, rfl, hE.suf sfx⟩
set_option maxRecDepth 100000 in
set_option maxHeartbeats 8000000 in
attribute [-go_sem] Instr.loadAt in
theorem back_yes {xs : List En} {ys : List En} {a_xs : Option Addr} {c_xs : Nat} {a_ys : Option Addr} {c_ys : Nat} {t u : Tr} (h1 : treeP xs = some t) (h2 : treeP ys = some u) {l : List HProp} {w : World} (h_xs : Knows l (reads (.slice a_xs xs.length c_xs) xs.length (xs.flatMap enC))) (h_ys : Knows l (reads (.slice a_ys ys.length c_ys) ys.length (ys.flatMap enC))) (hE : Ent l w) :
    Calls Tryd.prog 6 #[.slice a_xs xs.length c_xs, .slice a_ys ys.length c_ys] w (Ret fun v w' => v = .bool true ∧ Ent l w') := by
  have HT1 := SL.hid (fun (L : List HProp) (w : World) (hs : l <:+ L) (h : Ent L w) => Tree_good h1 (h_xs.suf hs) h)
  have HT2 := SL.hid (fun (L : List HProp) (w : World) (hs : l <:+ L) (h : Ent L w) => Tree_good h2 (h_ys.suf hs) h)
  obtain ⟨w1, d1, e1, l1, k1, n1, r1⟩ := tree_ents h1
  obtain ⟨w2, d2, e2, l2, k2, n2, r2⟩ := tree_ents h2
  have HD1 := SL.hid (fun (L : List HProp) (w : World) (v1 v2 : Value) hk1 hk2 (h : Ent L w) => Diff_any w1 w2 (by omega) (by omega) (kv := v1) (lv := v2) (l := L) hk1 hk2 h)
  have HD2 := SL.hid (fun (L : List HProp) (w : World) (v1 v2 : Value) hk1 hk2 (h : Ent L w) => Diff_any w1 w1 (by omega) (by omega) (kv := v1) (lv := v2) (l := L) hk1 hk2 h)
  have HD3 := SL.hid (fun (L : List HProp) (w : World) (v1 v2 : Value) hk1 hk2 (h : Ent L w) => Diff_any w2 w1 (by omega) (by omega) (kv := v1) (lv := v2) (l := L) hk1 hk2 h)
  have dl1 := diff_len (entT 6 [] t) (entT 6 [] u)
  have dl2 := diff_len (entT 6 [] u) (entT 6 [] t)
  have dk1 := diff_ok k1 k2
  have dk2 := diff_ok k2 k1
  have HV := SL.hid (fun (L : List HProp) (w : World) (a1 : Option Addr) (c1 : Nat) hk (h : Ent L w) => Reverse_in (es := diffP (entT 6 [] t) (entT 6 [] u)) (by omega) (ao := a1) (c := c1) (fun w' h => may_any (by omega) (fun x hx => by have := (dk1 x hx).1; omega) hk h) hk h)
  rw [(diff_rev h1 h2).1, (diff_rev h1 h2).2] at HV
  have HA1 := SL.hid (fun (L : List HProp) (w : World) (v1 : Value) (a1 : Option Addr) (c1 : Nat) hc hk hr (h : Ent L w) => Apply_in w1 (cs := diffP (entT 6 [] t) (entT 6 [] u)) (by omega) (fun x hx => by have := (k1 x hx).2; omega) (fun x hx => ⟨by have := (dk1 x hx).1; omega, by have := (dk1 x hx).2.2; omega⟩) (kv := v1) (ao := a1) (c := c1) hc (l := L) hk (fun L' w' hs h => may_any (by omega) (fun x hx => by have := (dk1 x hx).1; omega) (Knows.suf hr hs) h) hr h)
  have HA2 := SL.hid (fun (L : List HProp) (w : World) (v1 : Value) (a1 : Option Addr) (c1 : Nat) hc hk hr (h : Ent L w) => Apply_in w2 (cs := diffP (entT 6 [] u) (entT 6 [] t)) (by omega) (fun x hx => by have := (k2 x hx).2; omega) (fun x hx => ⟨by have := (dk2 x hx).1; omega, by have := (dk2 x hx).2.2; omega⟩) (kv := v1) (ao := a1) (c := c1) hc (l := L) hk (fun L' w' hs h => may_any (by omega) (fun x hx => by have := (dk2 x hx).1; omega) (Knows.suf hr hs) h) hr h)
  rw [diff_ap h1 h2] at HA1
  rw [diff_ap h2 h1] at HA2
  have HE1 := SL.hid (fun (L : List HProp) (w : World) (v1 : Value) (hk : KidsAt L v1 u.kids) (h : Ent L w) => Entries_any w2 (by decide) hk (by omega) h)
  have HE2 := SL.hid (fun (L : List HProp) (w : World) (v1 : Value) (hk : KidsAt L v1 t.kids) (h : Ent L w) => Entries_any w1 (by decide) hk (by omega) h)
  have HR1 := SL.hid (fun (L : List HProp) (w : World) (a1 a2 : Option Addr) (c1 c2 : Nat) hk1 hk2 (h : Ent L w) => Row_same (es := entT 6 [] u) (ao := a1) (bo := a2) (c := c1) (d := c2) (by omega) hk1 hk2 h)
  have HR2 := SL.hid (fun (L : List HProp) (w : World) (a1 a2 : Option Addr) (c1 c2 : Nat) hk1 hk2 (h : Ent L w) => Row_same (es := entT 6 [] t) (ao := a1) (bo := a2) (c := c1) (d := c2) (by omega) hk1 hk2 h)
  have HR3 := SL.hid (fun (L : List HProp) (w : World) (a1 a2 : Option Addr) (c1 c2 : Nat) hk1 hk2 (h : Ent L w) => eRow_any (xs := entT 6 [] t) (ys := entT 6 [] u) (by omega) (ao := a1) (bo := a2) (c := c1) (d := c2) hk1 hk2 h)
  have HR4 := SL.hid (fun (L : List HProp) (w : World) (a1 a2 : Option Addr) (c1 c2 : Nat) hk1 hk2 (h : Ent L w) => lRow_any (xs := diffP (entT 6 [] u) (entT 6 [] t)) (ys := diffP (entT 6 [] u) (entT 6 [] t)) (by omega) (ao := a1) (bo := a2) (c := c1) (d := c2) hk1 hk2 h)
  have hz : (((diffP (entT 6 [] t) (entT 6 [] u)).length : Int) == 0) = decide (entT 6 [] t = entT 6 [] u) := by
    rw [Bool.eq_iff_iff, beq_iff_eq, decide_eq_true_iff, ← diff_none _ _ r1 r2]
    omega
  rw [show diffP (entT 6 [] t) (entT 6 [] t) = [] from List.length_eq_zero_iff.1 ((diff_none _ _ r1 r1).2 rfl)] at HD2
  unfold LrPost at HR4
  unfold ErPost at HR3
  simp only [decide_true] at HR4
  unfold ApPost at HA1 HA2
  unfold TgPost at HT1 HT2
  simp only [nodeV] at HD1 HD2 HD3 HA1 HA2 HE1 HE2
  generalize diffP (entT 6 [] t) (entT 6 [] u) = DS at *
  generalize diffP (entT 6 [] u) (entT 6 [] t) = RS at *
  generalize entT 6 [] t = es at *
  generalize entT 6 [] u = fs at *
  generalize decide (es = fs) = same at *
  clear h1 h2 h_xs h_ys w1 w2 d1 d2 e1 e2 l1 l2 k1 k2 n1 n2 r1 r2 dl1 dl2 dk1 dk2
  have A1 := SL.hid True.intro
  have A2 := SL.hid True.intro
  have D1 := SL.hid True.intro
  have D2 := SL.hid True.intro
  have D3 := SL.hid True.intro
  have P1 := SL.hid True.intro
  have E1 := SL.hid True.intro
  have R1 := SL.hid True.intro
  have R2 := SL.hid True.intro
  have R3 := SL.hid True.intro
  go_enter Tryd.func6, Tryd.ntmps6
  go_wp2_with (first
    | go_skip
    | (clear A1; go_at_call 8; refine (HT1.out _ _ sfx hE).mono ?_; clear hE; rintro e w2 ⟨v, h1, m, ka1, kc1, ea1, ec1, h2, hE, hK1, hR1⟩; cases h1; cases h2)
    | (clear A2; go_at_call 8; refine (HT2.out _ _ sfx hE).mono ?_; clear hE; rintro e w2 ⟨v, h1, m, ka2, kc2, ea2, ec2, h2, hE, hK2, hR2⟩; cases h1; cases h2)
    | ((with_reducible (show Go.wpList _ _ _ (Go.Oper.mk _ (.alloc 25) _ _ _ _ :: _) _ _)); refine wpl_alloc hE rfl rfl (by simp [go_sem]; rfl) ?_; clear hE; intro b w hE; simp only [Act.eval, Act.put, List.setIfInBounds_toArray, List.set_cons_zero, List.set_cons_succ, getD_lit, List.getD_cons_succ, List.getD_cons_zero, Value.cells] at hE)
    | ((with_reducible (show Go.wpList _ _ _ (Go.Oper.mk _ (.store 25 (.tmp 5) _) _ _ _ _ :: _) _ _)); refine wpl_storeW hE 0 rfl rfl rfl (xs := [_, _, _]) rfl rfl Tryd.sizeOf25 rfl (by simp [Value.oneCell']) rfl ?_; clear hE; intro w hE; simp only [List.set_cons_zero] at hE; have F1 := SL.hid (node_knows hE))
    | ((with_reducible (show Go.wpList _ _ _ (Go.Oper.mk _ (.store 25 (.tmp 8) _) _ _ _ _ :: _) _ _)); refine wpl_storeW hE 0 rfl rfl rfl (xs := [_, _, _]) rfl rfl Tryd.sizeOf25 rfl (by simp [Value.oneCell']) rfl ?_; clear hE; intro w hE; simp only [List.set_cons_zero] at hE; have F2 := SL.hid (node_knows hE))
    | ((with_reducible (show Go.wpList _ _ _ (Go.Oper.mk _ (.store 25 (.tmp 14) _) _ _ _ _ :: _) _ _)); refine wpl_storeW hE 0 rfl rfl rfl (xs := [_, _, _]) rfl rfl Tryd.sizeOf25 rfl (by simp [Value.oneCell']) rfl ?_; clear hE; intro w hE; simp only [List.set_cons_zero] at hE; have F3 := SL.hid (node_knows hE))
    | ((with_reducible (show Go.wpList _ _ _ (Go.Oper.mk _ (.store 25 (.tmp 16) _) _ _ _ _ :: _) _ _)); refine wpl_storeW hE 0 rfl rfl rfl (xs := [_, _, _]) rfl rfl Tryd.sizeOf25 rfl (by simp [Value.oneCell']) rfl ?_; clear hE; intro w hE; simp only [List.set_cons_zero] at hE; have F4 := SL.hid (node_knows hE))
    | ((with_reducible (show Go.wpList _ _ _ (Go.Oper.mk _ (.load 25 (.tmp 5)) _ _ _ _ :: _) _ _)); refine wpl_loadF rfl rfl rfl (F1.out _ (hE.suf sfx)) ?_)
    | ((with_reducible (show Go.wpList _ _ _ (Go.Oper.mk _ (.load 25 (.tmp 8)) _ _ _ _ :: _) _ _)); refine wpl_loadF rfl rfl rfl (F2.out _ (hE.suf sfx)) ?_)
    | ((with_reducible (show Go.wpList _ _ _ (Go.Oper.mk _ (.load 25 (.tmp 14)) _ _ _ _ :: _) _ _)); refine wpl_loadF rfl rfl rfl (F3.out _ (hE.suf sfx)) ?_)
    | ((with_reducible (show Go.wpList _ _ _ (Go.Oper.mk _ (.load 25 (.tmp 16)) _ _ _ _ :: _) _ _)); refine wpl_loadF rfl rfl rfl (F4.out _ (hE.suf sfx)) ?_)
    | (clear D1; go_at_call 11; refine (HD1.out _ _ _ _ (hK1.suf sfx) (hK2.suf sfx) hE).mono ?_; clear hE; rintro e w2 ⟨v, h1, aa, cc, mm, h2, hE⟩; cases h1; cases h2; have KC := SL.hid (row_knows hE); have cKC := SL.hid (row_capQ hE 0 rfl))
    | (clear D2; go_at_call 11; refine (HD2.out _ _ _ _ (hK1.suf sfx) (hK1.suf sfx) hE).mono ?_; clear hE; rintro e w2 ⟨v, h1, aa, cc, mm, h2, hE⟩; cases h1; cases h2; have KN := SL.hid (row_knows hE); have cKN := SL.hid (row_capQ hE 0 rfl))
    | (clear D3; go_at_call 11; refine (HD3.out _ _ _ _ (hK2.suf sfx) (hK1.suf sfx) hE).mono ?_; clear hE; rintro e w2 ⟨v, h1, aa, cc, mm, h2, hE⟩; cases h1; cases h2; have KX := SL.hid (row_knows hE); have cKX := SL.hid (row_capQ hE 0 rfl))
    | (go_at_call 26; refine (HV.out _ _ _ _ (KC.out.suf sfx) hE).mono ?_; clear hE; rintro e w2 ⟨v, h1, a8, c8, h2, hE⟩; cases h1; cases h2; have KV := SL.hid (row_knows hE); have cKV := SL.hid (row_capQ hE 0 rfl))
    | (clear P1; go_at_call 20; refine (HA1.out _ _ _ _ _ cKC.out (hK1.suf sfx) (KC.out.suf sfx) hE).mono ?_; clear hE; rintro e w5 ⟨v, h1, m6, a6, c6, h2, hE, hK6⟩; cases h1; cases h2)
    | (go_at_call 20; refine (HA2.out _ _ _ _ _ cKV.out (hK2.suf sfx) (KV.out.suf sfx) hE).mono ?_; clear hE; rintro e w5 ⟨v, h1, m7, a7, c7, h2, hE, hK7⟩; cases h1; cases h2)
    | (clear E1; go_at_call 23; refine (HE1.out _ _ _ (hK6.suf sfx) hE).mono ?_; clear hE; rintro e w5 ⟨v, h1, a2, c2, m2, h2, hE⟩; cases h1; cases h2; have KE1 := SL.hid (rowEn_knows hE))
    | (go_at_call 23; refine (HE2.out _ _ _ (hK7.suf sfx) hE).mono ?_; clear hE; rintro e w5 ⟨v, h1, a2, c2, m2, h2, hE⟩; cases h1; cases h2; have KE2 := SL.hid (rowEn_knows hE))
    | (clear R1; go_at_call 22; refine (HR1.out _ _ _ _ _ _ (KE1.out.suf sfx) (hR2.suf sfx) hE).mono ?_; clear hE; rintro e w5 ⟨v, h1, h2, hE⟩; cases h1; cases h2)
    | (clear R2; go_at_call 22; refine (HR2.out _ _ _ _ _ _ (KE2.out.suf sfx) (hR1.suf sfx) hE).mono ?_; clear hE; rintro e w5 ⟨v, h1, h2, hE⟩; cases h1; cases h2)
    | (clear R3; go_at_call 22; refine (HR3.out _ _ _ _ _ _ (hR1.suf sfx) (hR2.suf sfx) hE).mono ?_; clear hE; rintro e w5 ⟨v, h1, h2, hE⟩; cases h1; cases h2)
    | (go_at_call 10; refine (HR4.out _ _ _ _ _ _ (KX.out.suf sfx) (KV.out.suf sfx) hE).mono ?_; clear hE; rintro e w5 ⟨v, h1, h2, hE⟩; cases h1; cases h2)
    | (go_at_call 9; refine (wakes28_any hE).mono ?_; clear hE; rintro e w2 ⟨v, h1, h2, m9, hE⟩; cases h1; cases h2))
  refine bodyPost_ret (results_tmp rfl _ _ _) rfl ?_
  exact ⟨_, rfl, rfl, hE.suf sfx⟩
theorem DiffBack_any {xs : List En} {ys : List En} {a_xs : Option Addr} {c_xs : Nat} {a_ys : Option Addr} {c_ys : Nat} {l : List HProp} {w : World} (h_xs : Knows l (reads (.slice a_xs xs.length c_xs) xs.length (xs.flatMap enC))) (h_ys : Knows l (reads (.slice a_ys ys.length c_ys) ys.length (ys.flatMap enC))) (hE : Ent l w) :
    Calls Tryd.prog 6 #[.slice a_xs xs.length c_xs, .slice a_ys ys.length c_ys] w (Ret fun v w' => v = .bool true ∧ Ent l w') := by
  cases e1 : treeP xs with
  | none => exact back_not (by rw [e1]; rfl) rfl (.inl rfl) h_xs h_ys hE
  | some t1 =>
    cases e2 : treeP ys with
    | none => exact back_not rfl (by rw [e2]; rfl) (.inr (rfl)) h_xs h_ys hE
    | some t2 =>
      exact back_yes e1 e2 h_xs h_ys hE
theorem DiffBack_in {xs : List En} {ys : List En} {a_xs : Option Addr} {c_xs : Nat} {a_ys : Option Addr} {c_ys : Nat} {W : World} (h_xs : Knows [rest W fun _ => False] (reads (.slice a_xs xs.length c_xs) xs.length (xs.flatMap enC))) (h_ys : Knows [rest W fun _ => False] (reads (.slice a_ys ys.length c_ys) ys.length (ys.flatMap enC))) :
    Calls Tryd.prog 6 #[.slice a_xs xs.length c_xs, .slice a_ys ys.length c_ys] W (Ret fun v w' => v = .bool true ∧ Ent [rest W fun _ => False] w') :=
  DiffBack_any h_xs h_ys (Ent.start W)
end Go.Proofs.YtcpgelpajppgdaaDoor
namespace Go.Proofs.YtcpgelpajppgdaaDoor
open Go.RowKit Go.SL

set_option maxRecDepth 100000 in
set_option maxHeartbeats 8000000 in
theorem road_not {xs : List En} {ys : List En} {zs : List En} {us : List En} {a_xs : Option Addr} {c_xs : Nat} {a_ys : Option Addr} {c_ys : Nat} {a_zs : Option Addr} {c_zs : Nat} {a_us : Option Addr} {c_us : Nat} {b1 : Bool} {b2 : Bool} {b3 : Bool} {b4 : Bool} (h1 : (treeP xs).isSome = b1) (h2 : (treeP ys).isSome = b2) (h3 : (treeP zs).isSome = b3) (h4 : (treeP us).isSome = b4) (hn : b1 = false ∨ b2 = false ∨ b3 = false ∨ b4 = false) {l : List HProp} {w : World} (h_xs : Knows l (reads (.slice a_xs xs.length c_xs) xs.length (xs.flatMap enC))) (h_ys : Knows l (reads (.slice a_ys ys.length c_ys) ys.length (ys.flatMap enC))) (h_zs : Knows l (reads (.slice a_zs zs.length c_zs) zs.length (zs.flatMap enC))) (h_us : Knows l (reads (.slice a_us us.length c_us) us.length (us.flatMap enC))) (hE : Ent l w) :
    Calls Tryd.prog 7 #[.slice a_xs xs.length c_xs, .slice a_ys ys.length c_ys, .slice a_zs zs.length c_zs, .slice a_us us.length c_us] w (Ret fun v w' => v = .bool true ∧ Ent l w') := by
  have HT1 := SL.hid (fun (L : List HProp) (w : World) (hs : l <:+ L) (h : Ent L w) => Tree_tf h1 (h_xs.suf hs) h)
  have HT2 := SL.hid (fun (L : List HProp) (w : World) (hs : l <:+ L) (h : Ent L w) => Tree_tf h2 (h_ys.suf hs) h)
  have HT3 := SL.hid (fun (L : List HProp) (w : World) (hs : l <:+ L) (h : Ent L w) => Tree_tf h3 (h_zs.suf hs) h)
  have HT4 := SL.hid (fun (L : List HProp) (w : World) (hs : l <:+ L) (h : Ent L w) => Tree_tf h4 (h_us.suf hs) h)
  clear h1 h2 h3 h4 h_xs h_ys h_zs h_us
  have A1 := SL.hid True.intro
  have A2 := SL.hid True.intro
  have A3 := SL.hid True.intro
  have A4 := SL.hid True.intro
  cases b1 <;> cases b2 <;> cases b3 <;> cases b4
  case' true.true.true.true =>
    exfalso
    simp at hn
  all_goals
    clear hn
    go_enter Tryd.func7, Tryd.ntmps7
    go_wp2_with (first
      | go_skip
      | (clear A1; go_at_call 8; refine (HT1.out _ _ sfx hE).mono ?_; clear hE; rintro e w2 ⟨v, h1, m, d, s, a, n, c, a', n', c', h2, hE⟩; cases h1; cases h2)
      | (clear A2; go_at_call 8; refine (HT2.out _ _ sfx hE).mono ?_; clear hE; rintro e w2 ⟨v, h1, m, d, s, a, n, c, a', n', c', h2, hE⟩; cases h1; cases h2)
      | (clear A3; go_at_call 8; refine (HT3.out _ _ sfx hE).mono ?_; clear hE; rintro e w2 ⟨v, h1, m, d, s, a, n, c, a', n', c', h2, hE⟩; cases h1; cases h2)
      | (clear A4; go_at_call 8; refine (HT4.out _ _ sfx hE).mono ?_; clear hE; rintro e w2 ⟨v, h1, m, d, s, a, n, c, a', n', c', h2, hE⟩; cases h1; cases h2)
      | ((with_reducible (show Go.wpList _ _ _ (Go.Oper.mk _ (.alloc 25) _ _ _ _ :: _) _ _)); refine wpl_alloc hE rfl rfl (by simp [go_sem]; rfl) ?_; clear hE; intro b w hE; simp only [Act.eval, Act.put, List.setIfInBounds_toArray, List.set_cons_zero, List.set_cons_succ, getD_lit, List.getD_cons_succ, List.getD_cons_zero, Value.cells] at hE)
      | ((with_reducible (show Go.wpList _ _ _ (Go.Oper.mk _ (.store 25 _ _) _ _ _ _ :: _) _ _)); refine wpl_storeW hE 0 rfl rfl rfl (xs := [_, _, _]) rfl rfl Tryd.sizeOf25 rfl (by simp [Value.oneCell']) rfl ?_; clear hE; intro w hE; simp only [List.set_cons_zero] at hE)
      | (go_at_call 9; refine (wakes28_any hE).mono ?_; clear hE; rintro e w2 ⟨v, h1, h2, m9, hE⟩; cases h1; cases h2))
    refine bodyPost_ret (results_tmp rfl _ _ _) rfl ?_
    exact ⟨_, rfl, rfl, hE.suf sfx⟩
set_option maxRecDepth 100000 in
set_option maxHeartbeats 16000000 in
attribute [-go_sem] Instr.loadAt in
theorem road_yes {xs : List En} {ys : List En} {zs : List En} {us : List En} {a_xs : Option Addr} {c_xs : Nat} {a_ys : Option Addr} {c_ys : Nat} {a_zs : Option Addr} {c_zs : Nat} {a_us : Option Addr} {c_us : Nat} {t1 t2 t3 t4 : Tr} (h1 : treeP xs = some t1) (h2 : treeP ys = some t2) (h3 : treeP zs = some t3) (h4 : treeP us = some t4) {l : List HProp} {w : World} (h_xs : Knows l (reads (.slice a_xs xs.length c_xs) xs.length (xs.flatMap enC))) (h_ys : Knows l (reads (.slice a_ys ys.length c_ys) ys.length (ys.flatMap enC))) (h_zs : Knows l (reads (.slice a_zs zs.length c_zs) zs.length (zs.flatMap enC))) (h_us : Knows l (reads (.slice a_us us.length c_us) us.length (us.flatMap enC))) (hE : Ent l w) :
    Calls Tryd.prog 7 #[.slice a_xs xs.length c_xs, .slice a_ys ys.length c_ys, .slice a_zs zs.length c_zs, .slice a_us us.length c_us] w (Ret fun v w' => v = .bool true ∧ Ent l w') := by
  have HT1 := SL.hid (fun (L : List HProp) (w : World) (hs : l <:+ L) (h : Ent L w) => Tree_good h1 (h_xs.suf hs) h)
  obtain ⟨w1, d1, e1, l1, k1, n1, r1⟩ := tree_ents h1
  have HT2 := SL.hid (fun (L : List HProp) (w : World) (hs : l <:+ L) (h : Ent L w) => Tree_good h2 (h_ys.suf hs) h)
  obtain ⟨w2, d2, e2, l2, k2, n2, r2⟩ := tree_ents h2
  have HT3 := SL.hid (fun (L : List HProp) (w : World) (hs : l <:+ L) (h : Ent L w) => Tree_good h3 (h_zs.suf hs) h)
  obtain ⟨w3, d3, e3, l3, k3, n3, r3⟩ := tree_ents h3
  have HT4 := SL.hid (fun (L : List HProp) (w : World) (hs : l <:+ L) (h : Ent L w) => Tree_good h4 (h_us.suf hs) h)
  obtain ⟨w4, d4, e4, l4, k4, n4, r4⟩ := tree_ents h4
  have HD12 := SL.hid (fun (L : List HProp) (w : World) (v1 v2 : Value) hk1 hk2 (h : Ent L w) => Diff_any w1 w2 (by omega) (by omega) (kv := v1) (lv := v2) (l := L) hk1 hk2 h)
  have dl12 := diff_len (entT 6 [] t1) (entT 6 [] t2)
  have dk12 := diff_ok k1 k2
  have HD23 := SL.hid (fun (L : List HProp) (w : World) (v1 v2 : Value) hk1 hk2 (h : Ent L w) => Diff_any w2 w3 (by omega) (by omega) (kv := v1) (lv := v2) (l := L) hk1 hk2 h)
  have dl23 := diff_len (entT 6 [] t2) (entT 6 [] t3)
  have dk23 := diff_ok k2 k3
  have HD34 := SL.hid (fun (L : List HProp) (w : World) (v1 v2 : Value) hk1 hk2 (h : Ent L w) => Diff_any w3 w4 (by omega) (by omega) (kv := v1) (lv := v2) (l := L) hk1 hk2 h)
  have dl34 := diff_len (entT 6 [] t3) (entT 6 [] t4)
  have dk34 := diff_ok k3 k4
  have HD13 := SL.hid (fun (L : List HProp) (w : World) (v1 v2 : Value) hk1 hk2 (h : Ent L w) => Diff_any w1 w3 (by omega) (by omega) (kv := v1) (lv := v2) (l := L) hk1 hk2 h)
  have dl13 := diff_len (entT 6 [] t1) (entT 6 [] t3)
  have dk13 := diff_ok k1 k3
  have HD24 := SL.hid (fun (L : List HProp) (w : World) (v1 v2 : Value) hk1 hk2 (h : Ent L w) => Diff_any w2 w4 (by omega) (by omega) (kv := v1) (lv := v2) (l := L) hk1 hk2 h)
  have dl24 := diff_len (entT 6 [] t2) (entT 6 [] t4)
  have dk24 := diff_ok k2 k4
  have HD14 := SL.hid (fun (L : List HProp) (w : World) (v1 v2 : Value) hk1 hk2 (h : Ent L w) => Diff_any w1 w4 (by omega) (by omega) (kv := v1) (lv := v2) (l := L) hk1 hk2 h)
  have dl14 := diff_len (entT 6 [] t1) (entT 6 [] t4)
  have dk14 := diff_ok k1 k4
  have HC1 := SL.hid (fun (L : List HProp) (w : World) (a1 a2 : Option Addr) (c1 c2 : Nat) hc1 hc2 hk1 hk2 (h : Ent L w) => Compose_in (a := diffP (entT 6 [] t1) (entT 6 [] t2)) (b := diffP (entT 6 [] t2) (entT 6 [] t3)) (by omega) (by omega) (fun x hx => by have := (dk12 x hx).1; omega) (fun x hx => by have := (dk23 x hx).1; omega) (aa := a1) (ab := a2) (ca := c1) (cb := c2) hc1 hc2 (fun w' h => may_any (by omega) (fun x hx => by have := (dk12 x hx).1; omega) hk1 h) (fun w' h => may_any (by omega) (fun x hx => by have := (dk23 x hx).1; omega) hk2 h) hk1 hk2 h)
  rw [(diff_comp h1 h2 h3).1, (diff_comp h1 h2 h3).2] at HC1
  unfold CmPost at HC1
  have HC2 := SL.hid (fun (L : List HProp) (w : World) (a1 a2 : Option Addr) (c1 c2 : Nat) hc1 hc2 hk1 hk2 (h : Ent L w) => Compose_in (a := diffP (entT 6 [] t2) (entT 6 [] t3)) (b := diffP (entT 6 [] t3) (entT 6 [] t4)) (by omega) (by omega) (fun x hx => by have := (dk23 x hx).1; omega) (fun x hx => by have := (dk34 x hx).1; omega) (aa := a1) (ab := a2) (ca := c1) (cb := c2) hc1 hc2 (fun w' h => may_any (by omega) (fun x hx => by have := (dk23 x hx).1; omega) hk1 h) (fun w' h => may_any (by omega) (fun x hx => by have := (dk34 x hx).1; omega) hk2 h) hk1 hk2 h)
  rw [(diff_comp h2 h3 h4).1, (diff_comp h2 h3 h4).2] at HC2
  unfold CmPost at HC2
  have HC3 := SL.hid (fun (L : List HProp) (w : World) (a1 a2 : Option Addr) (c1 c2 : Nat) hc1 hc2 hk1 hk2 (h : Ent L w) => Compose_in (a := diffP (entT 6 [] t1) (entT 6 [] t3)) (b := diffP (entT 6 [] t3) (entT 6 [] t4)) (by omega) (by omega) (fun x hx => by have := (dk13 x hx).1; omega) (fun x hx => by have := (dk34 x hx).1; omega) (aa := a1) (ab := a2) (ca := c1) (cb := c2) hc1 hc2 (fun w' h => may_any (by omega) (fun x hx => by have := (dk13 x hx).1; omega) hk1 h) (fun w' h => may_any (by omega) (fun x hx => by have := (dk34 x hx).1; omega) hk2 h) hk1 hk2 h)
  rw [(diff_comp h1 h3 h4).1, (diff_comp h1 h3 h4).2] at HC3
  unfold CmPost at HC3
  have HC4 := SL.hid (fun (L : List HProp) (w : World) (a1 a2 : Option Addr) (c1 c2 : Nat) hc1 hc2 hk1 hk2 (h : Ent L w) => Compose_in (a := diffP (entT 6 [] t1) (entT 6 [] t2)) (b := diffP (entT 6 [] t2) (entT 6 [] t4)) (by omega) (by omega) (fun x hx => by have := (dk12 x hx).1; omega) (fun x hx => by have := (dk24 x hx).1; omega) (aa := a1) (ab := a2) (ca := c1) (cb := c2) hc1 hc2 (fun w' h => may_any (by omega) (fun x hx => by have := (dk12 x hx).1; omega) hk1 h) (fun w' h => may_any (by omega) (fun x hx => by have := (dk24 x hx).1; omega) hk2 h) hk1 hk2 h)
  rw [(diff_comp h1 h2 h4).1, (diff_comp h1 h2 h4).2] at HC4
  unfold CmPost at HC4
  have HR13 := SL.hid (fun (L : List HProp) (w : World) (a1 a2 : Option Addr) (c1 c2 : Nat) hk1 hk2 (h : Ent L w) => lRow_any (xs := diffP (entT 6 [] t1) (entT 6 [] t3)) (ys := diffP (entT 6 [] t1) (entT 6 [] t3)) (by omega) (ao := a1) (bo := a2) (c := c1) (d := c2) hk1 hk2 h)
  unfold LrPost at HR13
  simp only [decide_true] at HR13
  have HR24 := SL.hid (fun (L : List HProp) (w : World) (a1 a2 : Option Addr) (c1 c2 : Nat) hk1 hk2 (h : Ent L w) => lRow_any (xs := diffP (entT 6 [] t2) (entT 6 [] t4)) (ys := diffP (entT 6 [] t2) (entT 6 [] t4)) (by omega) (ao := a1) (bo := a2) (c := c1) (d := c2) hk1 hk2 h)
  unfold LrPost at HR24
  simp only [decide_true] at HR24
  have HR14 := SL.hid (fun (L : List HProp) (w : World) (a1 a2 : Option Addr) (c1 c2 : Nat) hk1 hk2 (h : Ent L w) => lRow_any (xs := diffP (entT 6 [] t1) (entT 6 [] t4)) (ys := diffP (entT 6 [] t1) (entT 6 [] t4)) (by omega) (ao := a1) (bo := a2) (c := c1) (d := c2) hk1 hk2 h)
  unfold LrPost at HR14
  simp only [decide_true] at HR14
  unfold TgPost at HT1 HT2 HT3 HT4
  simp only [nodeV] at HD12 HD23 HD34 HD13 HD24 HD14
  generalize diffP (entT 6 [] t1) (entT 6 [] t2) = D12 at *
  generalize diffP (entT 6 [] t2) (entT 6 [] t3) = D23 at *
  generalize diffP (entT 6 [] t3) (entT 6 [] t4) = D34 at *
  generalize diffP (entT 6 [] t1) (entT 6 [] t3) = D13 at *
  generalize diffP (entT 6 [] t2) (entT 6 [] t4) = D24 at *
  generalize diffP (entT 6 [] t1) (entT 6 [] t4) = D14 at *
  generalize entT 6 [] t1 = es1 at *
  generalize entT 6 [] t2 = es2 at *
  generalize entT 6 [] t3 = es3 at *
  generalize entT 6 [] t4 = es4 at *
  clear h1 w1 d1 e1 l1 k1 n1 r1 h2 w2 d2 e2 l2 k2 n2 r2 h3 w3 d3 e3 l3 k3 n3 r3 h4 w4 d4 e4 l4 k4 n4 r4 h_xs h_ys h_zs h_us dl12 dk12 dl23 dk23 dl34 dk34 dl13 dk13 dl24 dk24 dl14 dk14
  have A1 := SL.hid True.intro
  have A2 := SL.hid True.intro
  have A3 := SL.hid True.intro
  have A4 := SL.hid True.intro
  have D1 := SL.hid True.intro
  have D2 := SL.hid True.intro
  have D3 := SL.hid True.intro
  have D4 := SL.hid True.intro
  have D5 := SL.hid True.intro
  have D6 := SL.hid True.intro
  have D7 := SL.hid True.intro
  have D8 := SL.hid True.intro
  have D9 := SL.hid True.intro
  have C1 := SL.hid True.intro
  have C2 := SL.hid True.intro
  have C3 := SL.hid True.intro
  have C4 := SL.hid True.intro
  have R1 := SL.hid True.intro
  have R2 := SL.hid True.intro
  have R3 := SL.hid True.intro
  have R4 := SL.hid True.intro
  go_enter Tryd.func7, Tryd.ntmps7
  go_wp2_with (first
    | go_skip
    | (clear A1; go_at_call 8; refine (HT1.out _ _ sfx hE).mono ?_; clear hE; rintro e w2 ⟨v, h1, m, ka1, kc1, ea1, ec1, h2, hE, hK1, hR1⟩; cases h1; cases h2)
    | (clear A2; go_at_call 8; refine (HT2.out _ _ sfx hE).mono ?_; clear hE; rintro e w2 ⟨v, h1, m, ka2, kc2, ea2, ec2, h2, hE, hK2, hR2⟩; cases h1; cases h2)
    | (clear A3; go_at_call 8; refine (HT3.out _ _ sfx hE).mono ?_; clear hE; rintro e w2 ⟨v, h1, m, ka3, kc3, ea3, ec3, h2, hE, hK3, hR3⟩; cases h1; cases h2)
    | (clear A4; go_at_call 8; refine (HT4.out _ _ sfx hE).mono ?_; clear hE; rintro e w2 ⟨v, h1, m, ka4, kc4, ea4, ec4, h2, hE, hK4, hR4⟩; cases h1; cases h2)
    | ((with_reducible (show Go.wpList _ _ _ (Go.Oper.mk _ (.alloc 25) _ _ _ _ :: _) _ _)); refine wpl_alloc hE rfl rfl (by simp [go_sem]; rfl) ?_; clear hE; intro b w hE; simp only [Act.eval, Act.put, List.setIfInBounds_toArray, List.set_cons_zero, List.set_cons_succ, getD_lit, List.getD_cons_succ, List.getD_cons_zero, Value.cells] at hE)
    | ((with_reducible (show Go.wpList _ _ _ (Go.Oper.mk _ (.store 25 (.tmp 9) _) _ _ _ _ :: _) _ _)); refine wpl_storeW hE 0 rfl rfl rfl (xs := [_, _, _]) rfl rfl Tryd.sizeOf25 rfl (by simp [Value.oneCell']) rfl ?_; clear hE; intro w hE; simp only [List.set_cons_zero] at hE; have F1 := SL.hid (node_knows hE); obtain ⟨b9, hb9⟩ : ∃ x, x = b := ⟨_, rfl⟩; subst hb9)
    | ((with_reducible (show Go.wpList _ _ _ (Go.Oper.mk _ (.store 25 (.tmp 12) _) _ _ _ _ :: _) _ _)); refine wpl_storeW hE 0 rfl rfl rfl (xs := [_, _, _]) rfl rfl Tryd.sizeOf25 rfl (by simp [Value.oneCell']) rfl ?_; clear hE; intro w hE; simp only [List.set_cons_zero] at hE; have F2 := SL.hid (node_knows hE); obtain ⟨b12, hb12⟩ : ∃ x, x = b := ⟨_, rfl⟩; subst hb12)
    | ((with_reducible (show Go.wpList _ _ _ (Go.Oper.mk _ (.store 25 (.tmp 15) _) _ _ _ _ :: _) _ _)); refine wpl_storeW hE 0 rfl rfl rfl (xs := [_, _, _]) rfl rfl Tryd.sizeOf25 rfl (by simp [Value.oneCell']) rfl ?_; clear hE; intro w hE; simp only [List.set_cons_zero] at hE; have F3 := SL.hid (node_knows hE); obtain ⟨b15, hb15⟩ : ∃ x, x = b := ⟨_, rfl⟩; subst hb15)
    | ((with_reducible (show Go.wpList _ _ _ (Go.Oper.mk _ (.store 25 (.tmp 18) _) _ _ _ _ :: _) _ _)); refine wpl_storeW hE 0 rfl rfl rfl (xs := [_, _, _]) rfl rfl Tryd.sizeOf25 rfl (by simp [Value.oneCell']) rfl ?_; clear hE; intro w hE; simp only [List.set_cons_zero] at hE; have F4 := SL.hid (node_knows hE); obtain ⟨b18, hb18⟩ : ∃ x, x = b := ⟨_, rfl⟩; subst hb18))
  have hO := hE.drew
  refine wp_region_held_drew (S := (fun w' => ((Instr.loadAt 25 (.pointer (some ⟨b9, 0, none⟩))).run Tryd.prog w' = .ok (.agg #[.bool t1.dir, .string ⟨t1.data.toArray⟩, .slice ka1 t1.kids.length kc1]) w') ∧ ((Instr.loadAt 25 (.pointer (some ⟨b12, 0, none⟩))).run Tryd.prog w' = .ok (.agg #[.bool t2.dir, .string ⟨t2.data.toArray⟩, .slice ka2 t2.kids.length kc2]) w') ∧ ((Instr.loadAt 25 (.pointer (some ⟨b15, 0, none⟩))).run Tryd.prog w' = .ok (.agg #[.bool t3.dir, .string ⟨t3.data.toArray⟩, .slice ka3 t3.kids.length kc3]) w'))) (by kernel_rfl) ⟨(F1.out _ (hO.suf sfx)), (F2.out _ (hO.suf sfx)), (F3.out _ (hO.suf sfx))⟩ (fun hS => ?_)
  refine takeW 0 ⟨some 69, .load 25 (.tmp 9), _, _, _, none⟩ ?_ (.inl ⟨by rfl, ?_⟩) hS ?_; rotate_left; · (intro w hSw; (try dsimp only at hSw); go_simp; (try with_reducible rfl))
  try simp only [Act.put, sb, s0, sz]
  refine takeW 1 ⟨some 70, .load 25 (.tmp 12), _, _, _, none⟩ ?_ (.inl ⟨by rfl, ?_⟩) hS ?_; rotate_left; · (intro w hSw; (try dsimp only at hSw); go_simp; (try with_reducible rfl))
  try simp only [Act.put, sb, s0, sz]
  refine takeW 3 ⟨some 72, .load 25 (.tmp 12), _, _, _, none⟩ ?_ (.inl ⟨by rfl, ?_⟩) hS ?_; rotate_left; · (intro w hSw; (try dsimp only at hSw); go_simp; (try with_reducible rfl))
  try simp only [Act.put, sb, s0, sz]
  refine takeW 4 ⟨some 73, .load 25 (.tmp 15), _, _, _, none⟩ ?_ (.inl ⟨by rfl, ?_⟩) hS ?_; rotate_left; · (intro w hSw; (try dsimp only at hSw); go_simp; (try with_reducible rfl))
  try simp only [Act.put, sb, s0, sz]
  refine wpAnyH_ready (rs := [2]) (by kernel_rfl) (by simp) ?_
  refine (AllReadyH.cons (o := ⟨some 71, .call { callee := .value (.func 11), args := #[.tmp 69, .tmp 70], argTypes := #[25, 25] }, _, _, _, none⟩) rfl (fun K hK => ?_) AllReadyH.nil)
  (go_simp; refine (HD12.out _ _ _ _ (hK1.suf sfx) (hK2.suf sfx) hO).mono ?_; clear hO; rintro e w2 ⟨v, h1, aa, cc, mm, h2, hO⟩; cases h1; cases h2; have K1 := SL.hid (row_knows hO); have cK1 := SL.hid (row_capQ hO 0 rfl))
  refine hK.out _ _ ⟨(F1.out _ (hO.suf sfx)), (F2.out _ (hO.suf sfx)), (F3.out _ (hO.suf sfx))⟩ (fun hS => ?_)
  clear hK K
  try simp only [Act.put, sb, s0, sz]
  refine wpAnyH_ready (rs := [5]) (by kernel_rfl) (by simp) ?_
  refine (AllReadyH.cons (o := ⟨some 74, .call { callee := .value (.func 11), args := #[.tmp 72, .tmp 73], argTypes := #[25, 25] }, _, _, _, none⟩) rfl (fun K hK => ?_) AllReadyH.nil)
  (go_simp; refine (HD23.out _ _ _ _ (hK2.suf sfx) (hK3.suf sfx) hO).mono ?_; clear hO; rintro e w2 ⟨v, h1, aa, cc, mm, h2, hO⟩; cases h1; cases h2; have K2 := SL.hid (row_knows hO); have cK2 := SL.hid (row_capQ hO 0 rfl))
  refine hK.out _ _ ⟨(F1.out _ (hO.suf sfx)), (F2.out _ (hO.suf sfx)), (F3.out _ (hO.suf sfx))⟩ (fun hS => ?_)
  clear hK K
  try simp only [Act.put, sb, s0, sz]
  refine wpAnyH_ready (rs := [6]) (by kernel_rfl) (by simp) ?_
  refine (AllReadyH.cons (o := ⟨some 75, .call { callee := .value (.func 24), args := #[.tmp 71, .tmp 74], argTypes := #[30, 30] }, _, _, _, none⟩) rfl (fun K hK => ?_) AllReadyH.nil)
  (go_simp; refine (HC1.out _ _ _ _ _ _ cK1.out cK2.out (K1.out.suf sfx) (K2.out.suf sfx) hO).mono ?_; clear hO; rintro e w2 ⟨v, h1, aa, cc, mm, h2, hO⟩; cases h1; cases h2; have Kk := SL.hid (row_knows hO); have cKk := SL.hid (row_capQ hO 0 rfl))
  refine hK.out _ _ ⟨(F1.out _ (hO.suf sfx)), (F2.out _ (hO.suf sfx)), (F3.out _ (hO.suf sfx))⟩ (fun hS => ?_)
  clear hK K
  try simp only [Act.put, sb, s0, sz]
  refine takeW 7 ⟨some 68, .move (.tmp 75), _, _, _, none⟩ ?_ (.inl ⟨by rfl, ?_⟩) hS ?_; rotate_left; · (intro _ _; go_simp; (try with_reducible rfl))
  try simp only [Act.put, sb, s0, sz]
  refine takeW 8 ⟨some 76, .extract (.tmp 68) 0, _, _, _, none⟩ ?_ (.inl ⟨by rfl, ?_⟩) hS ?_; rotate_left; · (intro _ _; go_simp; (try with_reducible rfl))
  try simp only [Act.put, sb, s0, sz]
  refine takeW 9 ⟨some 77, .extract (.tmp 68) 1, _, _, _, none⟩ ?_ (.inl ⟨by rfl, ?_⟩) hS ?_; rotate_left; · (intro _ _; go_simp; (try with_reducible rfl))
  try simp only [Act.put, sb, s0, sz]
  refine takeW 10 ⟨some 21, .assign (.tmp 76), _, _, _, none⟩ ?_ (.inl ⟨by rfl, ?_⟩) hS ?_; rotate_left; · (intro _ _; go_simp; (try with_reducible rfl))
  try simp only [Act.put, sb, s0, sz]
  refine takeW 11 ⟨some 22, .assign (.tmp 77), _, _, _, none⟩ ?_ (.inl ⟨by rfl, ?_⟩) hS ?_; rotate_left; · (intro _ _; go_simp; (try with_reducible rfl))
  try simp only [Act.put, sb, s0, sz]
  refine wpAnyH_done (by kernel_rfl) ?_ _
  all_goals
    clear hS hE
    have hE := hO
    clear hO
    go_wp2
    have hO := hE.drew
    refine wp_region_held_drew (S := (fun w' => ((Instr.loadAt 25 (.pointer (some ⟨b12, 0, none⟩))).run Tryd.prog w' = .ok (.agg #[.bool t2.dir, .string ⟨t2.data.toArray⟩, .slice ka2 t2.kids.length kc2]) w') ∧ ((Instr.loadAt 25 (.pointer (some ⟨b15, 0, none⟩))).run Tryd.prog w' = .ok (.agg #[.bool t3.dir, .string ⟨t3.data.toArray⟩, .slice ka3 t3.kids.length kc3]) w') ∧ ((Instr.loadAt 25 (.pointer (some ⟨b18, 0, none⟩))).run Tryd.prog w' = .ok (.agg #[.bool t4.dir, .string ⟨t4.data.toArray⟩, .slice ka4 t4.kids.length kc4]) w'))) (by kernel_rfl) ⟨(F2.out _ (hO.suf sfx)), (F3.out _ (hO.suf sfx)), (F4.out _ (hO.suf sfx))⟩ (fun hS => ?_)
    refine takeW 0 ⟨some 79, .load 25 (.tmp 12), _, _, _, none⟩ ?_ (.inl ⟨by rfl, ?_⟩) hS ?_; rotate_left; · (intro w hSw; (try dsimp only at hSw); go_simp; (try with_reducible rfl))
    try simp only [Act.put, sb, s0, sz]
    refine takeW 1 ⟨some 80, .load 25 (.tmp 15), _, _, _, none⟩ ?_ (.inl ⟨by rfl, ?_⟩) hS ?_; rotate_left; · (intro w hSw; (try dsimp only at hSw); go_simp; (try with_reducible rfl))
    try simp only [Act.put, sb, s0, sz]
    refine takeW 3 ⟨some 82, .load 25 (.tmp 15), _, _, _, none⟩ ?_ (.inl ⟨by rfl, ?_⟩) hS ?_; rotate_left; · (intro w hSw; (try dsimp only at hSw); go_simp; (try with_reducible rfl))
    try simp only [Act.put, sb, s0, sz]
    refine takeW 4 ⟨some 83, .load 25 (.tmp 18), _, _, _, none⟩ ?_ (.inl ⟨by rfl, ?_⟩) hS ?_; rotate_left; · (intro w hSw; (try dsimp only at hSw); go_simp; (try with_reducible rfl))
    try simp only [Act.put, sb, s0, sz]
    refine wpAnyH_ready (rs := [2]) (by kernel_rfl) (by simp) ?_
    refine (AllReadyH.cons (o := ⟨some 81, .call { callee := .value (.func 11), args := #[.tmp 79, .tmp 80], argTypes := #[25, 25] }, _, _, _, none⟩) rfl (fun K hK => ?_) AllReadyH.nil)
    (go_simp; refine (HD23.out _ _ _ _ (hK2.suf sfx) (hK3.suf sfx) hO).mono ?_; clear hO; rintro e w2 ⟨v, h1, aa, cc, mm, h2, hO⟩; cases h1; cases h2; have K3 := SL.hid (row_knows hO); have cK3 := SL.hid (row_capQ hO 0 rfl))
    refine hK.out _ _ ⟨(F2.out _ (hO.suf sfx)), (F3.out _ (hO.suf sfx)), (F4.out _ (hO.suf sfx))⟩ (fun hS => ?_)
    clear hK K
    try simp only [Act.put, sb, s0, sz]
    refine wpAnyH_ready (rs := [5]) (by kernel_rfl) (by simp) ?_
    refine (AllReadyH.cons (o := ⟨some 84, .call { callee := .value (.func 11), args := #[.tmp 82, .tmp 83], argTypes := #[25, 25] }, _, _, _, none⟩) rfl (fun K hK => ?_) AllReadyH.nil)
    (go_simp; refine (HD34.out _ _ _ _ (hK3.suf sfx) (hK4.suf sfx) hO).mono ?_; clear hO; rintro e w2 ⟨v, h1, aa, cc, mm, h2, hO⟩; cases h1; cases h2; have K4 := SL.hid (row_knows hO); have cK4 := SL.hid (row_capQ hO 0 rfl))
    refine hK.out _ _ ⟨(F2.out _ (hO.suf sfx)), (F3.out _ (hO.suf sfx)), (F4.out _ (hO.suf sfx))⟩ (fun hS => ?_)
    clear hK K
    try simp only [Act.put, sb, s0, sz]
    refine wpAnyH_ready (rs := [6]) (by kernel_rfl) (by simp) ?_
    refine (AllReadyH.cons (o := ⟨some 85, .call { callee := .value (.func 24), args := #[.tmp 81, .tmp 84], argTypes := #[30, 30] }, _, _, _, none⟩) rfl (fun K hK => ?_) AllReadyH.nil)
    (go_simp; refine (HC2.out _ _ _ _ _ _ cK3.out cK4.out (K3.out.suf sfx) (K4.out.suf sfx) hO).mono ?_; clear hO; rintro e w2 ⟨v, h1, aa, cc, mm, h2, hO⟩; cases h1; cases h2; have Kl := SL.hid (row_knows hO); have cKl := SL.hid (row_capQ hO 0 rfl))
    refine hK.out _ _ ⟨(F2.out _ (hO.suf sfx)), (F3.out _ (hO.suf sfx)), (F4.out _ (hO.suf sfx))⟩ (fun hS => ?_)
    clear hK K
    try simp only [Act.put, sb, s0, sz]
    refine takeW 7 ⟨some 78, .move (.tmp 85), _, _, _, none⟩ ?_ (.inl ⟨by rfl, ?_⟩) hS ?_; rotate_left; · (intro _ _; go_simp; (try with_reducible rfl))
    try simp only [Act.put, sb, s0, sz]
    refine takeW 8 ⟨some 86, .extract (.tmp 78) 0, _, _, _, none⟩ ?_ (.inl ⟨by rfl, ?_⟩) hS ?_; rotate_left; · (intro _ _; go_simp; (try with_reducible rfl))
    try simp only [Act.put, sb, s0, sz]
    refine takeW 9 ⟨some 87, .extract (.tmp 78) 1, _, _, _, none⟩ ?_ (.inl ⟨by rfl, ?_⟩) hS ?_; rotate_left; · (intro _ _; go_simp; (try with_reducible rfl))
    try simp only [Act.put, sb, s0, sz]
    refine takeW 10 ⟨some 23, .assign (.tmp 86), _, _, _, none⟩ ?_ (.inl ⟨by rfl, ?_⟩) hS ?_; rotate_left; · (intro _ _; go_simp; (try with_reducible rfl))
    try simp only [Act.put, sb, s0, sz]
    refine takeW 11 ⟨some 24, .assign (.tmp 87), _, _, _, none⟩ ?_ (.inl ⟨by rfl, ?_⟩) hS ?_; rotate_left; · (intro _ _; go_simp; (try with_reducible rfl))
    try simp only [Act.put, sb, s0, sz]
    refine wpAnyH_done (by kernel_rfl) ?_ _
    all_goals
      clear hS hE
      have hE := hO
      clear hO
      go_wp2_with (first
        | go_skip
        | ((with_reducible (show Go.wpList _ _ _ (Go.Oper.mk _ (.load 25 (.tmp 9)) _ _ _ _ :: _) _ _)); refine wpl_loadF rfl rfl rfl (F1.out _ (hE.suf sfx)) ?_)
        | ((with_reducible (show Go.wpList _ _ _ (Go.Oper.mk _ (.load 25 (.tmp 12)) _ _ _ _ :: _) _ _)); refine wpl_loadF rfl rfl rfl (F2.out _ (hE.suf sfx)) ?_)
        | ((with_reducible (show Go.wpList _ _ _ (Go.Oper.mk _ (.load 25 (.tmp 15)) _ _ _ _ :: _) _ _)); refine wpl_loadF rfl rfl rfl (F3.out _ (hE.suf sfx)) ?_)
        | ((with_reducible (show Go.wpList _ _ _ (Go.Oper.mk _ (.load 25 (.tmp 18)) _ _ _ _ :: _) _ _)); refine wpl_loadF rfl rfl rfl (F4.out _ (hE.suf sfx)) ?_)
        | (clear D5; go_at_call 11; refine (HD34.out _ _ _ _ (hK3.suf sfx) (hK4.suf sfx) hE).mono ?_; clear hE; rintro e w2 ⟨v, h1, aa, cc, mm, h2, hE⟩; cases h1; cases h2; have K5 := SL.hid (row_knows hE); have cK5 := SL.hid (row_capQ hE 0 rfl))
        | (clear D6; go_at_call 11; refine (HD12.out _ _ _ _ (hK1.suf sfx) (hK2.suf sfx) hE).mono ?_; clear hE; rintro e w2 ⟨v, h1, aa, cc, mm, h2, hE⟩; cases h1; cases h2; have K6 := SL.hid (row_knows hE); have cK6 := SL.hid (row_capQ hE 0 rfl))
        | (clear D7; go_at_call 11; refine (HD13.out _ _ _ _ (hK1.suf sfx) (hK3.suf sfx) hE).mono ?_; clear hE; rintro e w2 ⟨v, h1, aa, cc, mm, h2, hE⟩; cases h1; cases h2; have K7 := SL.hid (row_knows hE); have cK7 := SL.hid (row_capQ hE 0 rfl))
        | (clear D8; go_at_call 11; refine (HD24.out _ _ _ _ (hK2.suf sfx) (hK4.suf sfx) hE).mono ?_; clear hE; rintro e w2 ⟨v, h1, aa, cc, mm, h2, hE⟩; cases h1; cases h2; have K8 := SL.hid (row_knows hE); have cK8 := SL.hid (row_capQ hE 0 rfl))
        | (clear D9; go_at_call 11; refine (HD14.out _ _ _ _ (hK1.suf sfx) (hK4.suf sfx) hE).mono ?_; clear hE; rintro e w2 ⟨v, h1, aa, cc, mm, h2, hE⟩; cases h1; cases h2; have K9 := SL.hid (row_knows hE); have cK9 := SL.hid (row_capQ hE 0 rfl))
        | (clear C3; go_at_call 24; refine (HC3.out _ _ _ _ _ _ cKk.out cK5.out (Kk.out.suf sfx) (K5.out.suf sfx) hE).mono ?_; clear hE; rintro e w2 ⟨v, h1, aa, cc, mm, h2, hE⟩; cases h1; cases h2; have Km := SL.hid (row_knows hE); have cKm := SL.hid (row_capQ hE 0 rfl))
        | (clear C4; go_at_call 24; refine (HC4.out _ _ _ _ _ _ cK6.out cKl.out (K6.out.suf sfx) (Kl.out.suf sfx) hE).mono ?_; clear hE; rintro e w2 ⟨v, h1, aa, cc, mm, h2, hE⟩; cases h1; cases h2; have Kn := SL.hid (row_knows hE); have cKn := SL.hid (row_capQ hE 0 rfl))
        | (clear R1; go_at_call 10; refine (HR13.out _ _ _ _ _ _ (Kk.out.suf sfx) (K7.out.suf sfx) hE).mono ?_; clear hE; rintro e w5 ⟨v, h1, h2, hE⟩; cases h1; cases h2)
        | (clear R2; go_at_call 10; refine (HR24.out _ _ _ _ _ _ (Kl.out.suf sfx) (K8.out.suf sfx) hE).mono ?_; clear hE; rintro e w5 ⟨v, h1, h2, hE⟩; cases h1; cases h2)
        | (clear R3; go_at_call 10; refine (HR14.out _ _ _ _ _ _ (Km.out.suf sfx) (Kn.out.suf sfx) hE).mono ?_; clear hE; rintro e w5 ⟨v, h1, h2, hE⟩; cases h1; cases h2)
        | (clear R4; go_at_call 10; refine (HR14.out _ _ _ _ _ _ (Km.out.suf sfx) (K9.out.suf sfx) hE).mono ?_; clear hE; rintro e w5 ⟨v, h1, h2, hE⟩; cases h1; cases h2)
        | (go_at_call 9; refine (wakes28_any hE).mono ?_; clear hE; rintro e w2 ⟨v, h1, h2, m9, hE⟩; cases h1; cases h2))
      refine bodyPost_ret (results_tmp rfl _ _ _) rfl ?_
      exact ⟨_, rfl, rfl, hE.suf sfx⟩
theorem DiffRoad_any {xs : List En} {ys : List En} {zs : List En} {us : List En} {a_xs : Option Addr} {c_xs : Nat} {a_ys : Option Addr} {c_ys : Nat} {a_zs : Option Addr} {c_zs : Nat} {a_us : Option Addr} {c_us : Nat} {l : List HProp} {w : World} (h_xs : Knows l (reads (.slice a_xs xs.length c_xs) xs.length (xs.flatMap enC))) (h_ys : Knows l (reads (.slice a_ys ys.length c_ys) ys.length (ys.flatMap enC))) (h_zs : Knows l (reads (.slice a_zs zs.length c_zs) zs.length (zs.flatMap enC))) (h_us : Knows l (reads (.slice a_us us.length c_us) us.length (us.flatMap enC))) (hE : Ent l w) :
    Calls Tryd.prog 7 #[.slice a_xs xs.length c_xs, .slice a_ys ys.length c_ys, .slice a_zs zs.length c_zs, .slice a_us us.length c_us] w (Ret fun v w' => v = .bool true ∧ Ent l w') := by
  cases e1 : treeP xs with
  | none => exact road_not (by rw [e1]; rfl) rfl rfl rfl (.inl rfl) h_xs h_ys h_zs h_us hE
  | some t1 =>
    cases e2 : treeP ys with
    | none => exact road_not rfl (by rw [e2]; rfl) rfl rfl (.inr (.inl rfl)) h_xs h_ys h_zs h_us hE
    | some t2 =>
      cases e3 : treeP zs with
      | none => exact road_not rfl rfl (by rw [e3]; rfl) rfl (.inr (.inr (.inl rfl))) h_xs h_ys h_zs h_us hE
      | some t3 =>
        cases e4 : treeP us with
        | none => exact road_not rfl rfl rfl (by rw [e4]; rfl) (.inr (.inr (.inr (rfl)))) h_xs h_ys h_zs h_us hE
        | some t4 =>
          exact road_yes e1 e2 e3 e4 h_xs h_ys h_zs h_us hE
theorem DiffRoad_in {xs : List En} {ys : List En} {zs : List En} {us : List En} {a_xs : Option Addr} {c_xs : Nat} {a_ys : Option Addr} {c_ys : Nat} {a_zs : Option Addr} {c_zs : Nat} {a_us : Option Addr} {c_us : Nat} {W : World} (h_xs : Knows [rest W fun _ => False] (reads (.slice a_xs xs.length c_xs) xs.length (xs.flatMap enC))) (h_ys : Knows [rest W fun _ => False] (reads (.slice a_ys ys.length c_ys) ys.length (ys.flatMap enC))) (h_zs : Knows [rest W fun _ => False] (reads (.slice a_zs zs.length c_zs) zs.length (zs.flatMap enC))) (h_us : Knows [rest W fun _ => False] (reads (.slice a_us us.length c_us) us.length (us.flatMap enC))) :
    Calls Tryd.prog 7 #[.slice a_xs xs.length c_xs, .slice a_ys ys.length c_ys, .slice a_zs zs.length c_zs, .slice a_us us.length c_us] W (Ret fun v w' => v = .bool true ∧ Ent [rest W fun _ => False] w') :=
  DiffRoad_any h_xs h_ys h_zs h_us (Ent.start W)
end Go.Proofs.YtcpgelpajppgdaaDoor
