/-
  What was merged is merged. (Printed by gen_mt.py.)
-/
import Derived.Test.YtjdignaddfhohaaDoorMergAF4
namespace Go.Proofs.YtjdignaddfhohaaDoor
open Go.RowKit Go.SL

set_option maxRecDepth 100000 in
set_option maxHeartbeats 8000000 in
theorem twice_not {xs : List En} {ys : List En} {zs : List En} {a_xs : Option Addr} {c_xs : Nat} {a_ys : Option Addr} {c_ys : Nat} {a_zs : Option Addr} {c_zs : Nat} {b1 : Bool} {b2 : Bool} {b3 : Bool} (h1 : (treeP xs).isSome = b1) (h2 : (treeP ys).isSome = b2) (h3 : (treeP zs).isSome = b3) (hn : b1 = false ∨ b2 = false ∨ b3 = false) {l : List HProp} {w : World} (h_xs : Knows l (reads (.slice a_xs xs.length c_xs) xs.length (xs.flatMap enC))) (h_ys : Knows l (reads (.slice a_ys ys.length c_ys) ys.length (ys.flatMap enC))) (h_zs : Knows l (reads (.slice a_zs zs.length c_zs) zs.length (zs.flatMap enC))) (hE : Ent l w) :
    Calls Tryd.prog 5 #[.slice a_xs xs.length c_xs, .slice a_ys ys.length c_ys, .slice a_zs zs.length c_zs] w (Ret fun v w' => v = .bool true ∧ Ent l w') := by
  have HT1 := SL.hid (fun (L : List HProp) (w : World) (hs : l <:+ L) (h : Ent L w) => Tree_tf h1 (h_xs.suf hs) h)
  have HT2 := SL.hid (fun (L : List HProp) (w : World) (hs : l <:+ L) (h : Ent L w) => Tree_tf h2 (h_ys.suf hs) h)
  have HT3 := SL.hid (fun (L : List HProp) (w : World) (hs : l <:+ L) (h : Ent L w) => Tree_tf h3 (h_zs.suf hs) h)
  clear h1 h2 h3 h_xs h_ys h_zs
  have A1 := SL.hid True.intro
  have A2 := SL.hid True.intro
  have A3 := SL.hid True.intro
  cases b1 <;> cases b2 <;> cases b3
  case' true.true.true =>
    exfalso
    simp at hn
  all_goals
    clear hn
    go_enter Tryd.func5, Tryd.ntmps5
    go_wp2_with (first
      | go_skip
      | (clear A1; go_at_call 11; refine (HT1.out _ _ sfx hE).mono ?_; clear hE; rintro e w2 ⟨v, h1, m, d, s, a, n, c, a', n', c', h2, hE⟩; cases h1; cases h2)
      | (clear A2; go_at_call 11; refine (HT2.out _ _ sfx hE).mono ?_; clear hE; rintro e w2 ⟨v, h1, m, d, s, a, n, c, a', n', c', h2, hE⟩; cases h1; cases h2)
      | (clear A3; go_at_call 11; refine (HT3.out _ _ sfx hE).mono ?_; clear hE; rintro e w2 ⟨v, h1, m, d, s, a, n, c, a', n', c', h2, hE⟩; cases h1; cases h2)
      | ((with_reducible (show Go.wpList _ _ _ (Go.Oper.mk _ (.alloc 35) _ _ _ _ :: _) _ _)); refine wpl_alloc hE rfl rfl (by simp [go_sem]; rfl) ?_; clear hE; intro b w hE; simp only [Act.eval, Act.put, List.setIfInBounds_toArray, List.set_cons_zero, List.set_cons_succ, getD_lit, List.getD_cons_succ, List.getD_cons_zero, Value.cells] at hE)
      | ((with_reducible (show Go.wpList _ _ _ (Go.Oper.mk _ (.store 35 _ _) _ _ _ _ :: _) _ _)); refine wpl_storeW hE 0 rfl rfl rfl (xs := [_, _, _]) rfl rfl Tryd.sizeOf35 rfl (by simp [Value.oneCell']) rfl ?_; clear hE; intro w hE; simp only [List.set_cons_zero] at hE)
      | (go_at_call 7; refine (wakes29_any hE).mono ?_; clear hE; rintro e w2 ⟨v, h1, h2, m9, hE⟩; cases h1; cases h2))
    refine bodyPost_ret (results_tmp rfl _ _ _) rfl ?_
    exact ⟨_, rfl, rfl, hE.suf sfx⟩
set_option maxRecDepth 100000 in
set_option maxHeartbeats 16000000 in
attribute [-go_sem] Instr.loadAt in
theorem twice_bad {xs : List En} {ys : List En} {zs : List En} {a_xs : Option Addr} {c_xs : Nat} {a_ys : Option Addr} {c_ys : Nat} {a_zs : Option Addr} {c_zs : Nat} {t1 t2 t3 : Tr} (h1 : treeP xs = some t1) (h2 : treeP ys = some t2) (h3 : treeP zs = some t3) {e : Int} {n : Nat} (he : mrgE (entT 6 [] t1) (entT 6 [] t2) (entT 6 [] t3) = e) (hc : (mrgC (entT 6 [] t1) (entT 6 [] t2) (entT 6 [] t3)).length = n) (hb : e ≠ 0 ∨ (e = 0 ∧ 0 < n)) {l : List HProp} {w : World} (h_xs : Knows l (reads (.slice a_xs xs.length c_xs) xs.length (xs.flatMap enC))) (h_ys : Knows l (reads (.slice a_ys ys.length c_ys) ys.length (ys.flatMap enC))) (h_zs : Knows l (reads (.slice a_zs zs.length c_zs) zs.length (zs.flatMap enC))) (hE : Ent l w) :
    Calls Tryd.prog 5 #[.slice a_xs xs.length c_xs, .slice a_ys ys.length c_ys, .slice a_zs zs.length c_zs] w (Ret fun v w' => v = .bool true ∧ Ent l w') := by
  have HT1 := SL.hid (fun (L : List HProp) (w : World) (hs : l <:+ L) (h : Ent L w) => Tree_good h1 (h_xs.suf hs) h)
  have w1 := (tree_ents h1).1
  have f1 := tree_fits h1
  have HT2 := SL.hid (fun (L : List HProp) (w : World) (hs : l <:+ L) (h : Ent L w) => Tree_good h2 (h_ys.suf hs) h)
  have w2 := (tree_ents h2).1
  have f2 := tree_fits h2
  have HT3 := SL.hid (fun (L : List HProp) (w : World) (hs : l <:+ L) (h : Ent L w) => Tree_good h3 (h_zs.suf hs) h)
  have w3 := (tree_ents h3).1
  have f3 := tree_fits h3
  have HM0 := SL.hid (fun (a1 a2 a3 : Option Addr) (c1 c2 c3 : Nat) (L : List HProp) (w : World) hk1 hk2 hk3 (h : Ent L w) => Merge_at w1 w2 w3 rfl rfl rfl f1 f2 f3 rfl hc he (T := mrgT (entT 6 [] t1) (entT 6 [] t2) (entT 6 [] t3)) (n := n) (e := e) (a1 := a1) (a2 := a2) (a3 := a3) (c1 := c1) (c2 := c2) (c3 := c3) (l := L) hk1 hk2 hk3 h)
  unfold TgPost at HT1 HT2 HT3
  unfold GmPost at HM0
  clear h1 h2 h3 w1 w2 w3 f1 f2 f3 he hc h_xs h_ys h_zs
  generalize mrgT (entT 6 [] t1) (entT 6 [] t2) (entT 6 [] t3) = T at *
  generalize entT 6 [] t1 = es1 at *
  generalize entT 6 [] t2 = es2 at *
  generalize entT 6 [] t3 = es3 at *
  have A1 := SL.hid True.intro
  have A2 := SL.hid True.intro
  have A3 := SL.hid True.intro
  have M1 := SL.hid True.intro
  rcases hb with hb | ⟨rfl, hb⟩
  case' inl => have hne : (e != 0) = true := by simpa using hb
  case' inr =>
    have hn0 : (0 : Int) < (n : Int) := by omega
    have hnd : decide ((0 : Int) < (n : Int)) = true := decide_eq_true hn0
  all_goals
    clear hb
    go_enter Tryd.func5, Tryd.ntmps5
    go_wp2_with (first
      | go_skip
      | (clear A1; go_at_call 11; refine (HT1.out _ _ sfx hE).mono ?_; clear hE; rintro e w2 ⟨v, h1, m, ka1, kc1, ea1, ec1, h2, hE, hK1, hR1⟩; cases h1; cases h2)
      | (clear A2; go_at_call 11; refine (HT2.out _ _ sfx hE).mono ?_; clear hE; rintro e w2 ⟨v, h1, m, ka2, kc2, ea2, ec2, h2, hE, hK2, hR2⟩; cases h1; cases h2)
      | (clear A3; go_at_call 11; refine (HT3.out _ _ sfx hE).mono ?_; clear hE; rintro e w2 ⟨v, h1, m, ka3, kc3, ea3, ec3, h2, hE, hK3, hR3⟩; cases h1; cases h2)
      | ((with_reducible (show Go.wpList _ _ _ (Go.Oper.mk _ (.alloc 35) _ _ _ _ :: _) _ _)); refine wpl_alloc hE rfl rfl (by simp [go_sem]; rfl) ?_; clear hE; intro b w hE; simp only [Act.eval, Act.put, List.setIfInBounds_toArray, List.set_cons_zero, List.set_cons_succ, getD_lit, List.getD_cons_succ, List.getD_cons_zero, Value.cells] at hE)
      | ((with_reducible (show Go.wpList _ _ _ (Go.Oper.mk _ (.store 35 (.tmp 7) _) _ _ _ _ :: _) _ _)); refine wpl_storeW hE 0 rfl rfl rfl (xs := [_, _, _]) rfl rfl Tryd.sizeOf35 rfl (by simp [Value.oneCell']) rfl ?_; clear hE; intro w hE; simp only [List.set_cons_zero] at hE; have F1 := SL.hid (node_knows hE))
      | ((with_reducible (show Go.wpList _ _ _ (Go.Oper.mk _ (.store 35 (.tmp 10) _) _ _ _ _ :: _) _ _)); refine wpl_storeW hE 0 rfl rfl rfl (xs := [_, _, _]) rfl rfl Tryd.sizeOf35 rfl (by simp [Value.oneCell']) rfl ?_; clear hE; intro w hE; simp only [List.set_cons_zero] at hE; have F2 := SL.hid (node_knows hE))
      | ((with_reducible (show Go.wpList _ _ _ (Go.Oper.mk _ (.store 35 (.tmp 13) _) _ _ _ _ :: _) _ _)); refine wpl_storeW hE 0 rfl rfl rfl (xs := [_, _, _]) rfl rfl Tryd.sizeOf35 rfl (by simp [Value.oneCell']) rfl ?_; clear hE; intro w hE; simp only [List.set_cons_zero] at hE; have F3 := SL.hid (node_knows hE))
      | ((with_reducible (show Go.wpList _ _ _ (Go.Oper.mk _ (.store 35 _ _) _ _ _ _ :: _) _ _)); refine wpl_storeW hE 0 rfl rfl rfl (xs := [_, _, _]) rfl rfl Tryd.sizeOf35 rfl (by simp [Value.oneCell']) rfl ?_; clear hE; intro w hE; simp only [List.set_cons_zero] at hE)
      | ((with_reducible (show Go.wpList _ _ _ (Go.Oper.mk _ (.load 35 (.tmp 7)) _ _ _ _ :: _) _ _)); refine wpl_loadK rfl rfl rfl (F1.out _ (hE.suf sfx)) ?_)
      | ((with_reducible (show Go.wpList _ _ _ (Go.Oper.mk _ (.load 35 (.tmp 10)) _ _ _ _ :: _) _ _)); refine wpl_loadK rfl rfl rfl (F2.out _ (hE.suf sfx)) ?_)
      | ((with_reducible (show Go.wpList _ _ _ (Go.Oper.mk _ (.load 35 (.tmp 13)) _ _ _ _ :: _) _ _)); refine wpl_loadK rfl rfl rfl (F3.out _ (hE.suf sfx)) ?_)
      | (clear M1; go_at_call 12; refine (HM0.out _ _ _ _ _ _ _ _ (hK1.suf sfx) (hK2.suf sfx) (hK3.suf sfx) hE).mono ?_; clear hE; rintro e w2 ⟨v, h1, m, ka4, kc4, ca4, cc4, h2, hE, hK4⟩; cases h1; cases h2)
      | (go_at_call 7; refine (wakes29_any hE).mono ?_; clear hE; rintro e w2 ⟨v, h1, h2, m9, hE⟩; cases h1; cases h2))
    refine bodyPost_ret (results_tmp rfl _ _ _) rfl ?_
    exact ⟨_, rfl, rfl, hE.suf sfx⟩
set_option maxRecDepth 100000 in
set_option maxHeartbeats 16000000 in
attribute [-go_sem] Instr.loadAt in
theorem twice_good {xs : List En} {ys : List En} {zs : List En} {a_xs : Option Addr} {c_xs : Nat} {a_ys : Option Addr} {c_ys : Nat} {a_zs : Option Addr} {c_zs : Nat} {t1 t2 t3 : Tr} (h1 : treeP xs = some t1) (h2 : treeP ys = some t2) (h3 : treeP zs = some t3) (he : mrgE (entT 6 [] t1) (entT 6 [] t2) (entT 6 [] t3) = 0) (hc : (mrgC (entT 6 [] t1) (entT 6 [] t2) (entT 6 [] t3)).length = 0) {l : List HProp} {w : World} (h_xs : Knows l (reads (.slice a_xs xs.length c_xs) xs.length (xs.flatMap enC))) (h_ys : Knows l (reads (.slice a_ys ys.length c_ys) ys.length (ys.flatMap enC))) (h_zs : Knows l (reads (.slice a_zs zs.length c_zs) zs.length (zs.flatMap enC))) (hE : Ent l w) :
    Calls Tryd.prog 5 #[.slice a_xs xs.length c_xs, .slice a_ys ys.length c_ys, .slice a_zs zs.length c_zs] w (Ret fun v w' => v = .bool true ∧ Ent l w') := by
  have HT1 := SL.hid (fun (L : List HProp) (w : World) (hs : l <:+ L) (h : Ent L w) => Tree_good h1 (h_xs.suf hs) h)
  have w1 := (tree_ents h1).1
  have f1 := tree_fits h1
  have HT2 := SL.hid (fun (L : List HProp) (w : World) (hs : l <:+ L) (h : Ent L w) => Tree_good h2 (h_ys.suf hs) h)
  have w2 := (tree_ents h2).1
  have f2 := tree_fits h2
  have HT3 := SL.hid (fun (L : List HProp) (w : World) (hs : l <:+ L) (h : Ent L w) => Tree_good h3 (h_zs.suf hs) h)
  have w3 := (tree_ents h3).1
  have f3 := tree_fits h3
  obtain ⟨w4, g4, f4, _⟩ := merged_facts f1 f2 f3 he
  obtain ⟨⟨x1, x2, x3⟩, y1, y2, y3⟩ := twice_facts f1 f2 f3 he hc
  have n4 := f4.few
  have n5 : (entT 6 [] (mrgT (entT 6 [] t1) (entT 6 [] t2) (entT 6 [] t3))).length ≤ 100 := by rw [g4]; exact n4
  have HM0 := SL.hid (fun (a1 a2 a3 : Option Addr) (c1 c2 c3 : Nat) (L : List HProp) (w : World) hk1 hk2 hk3 (h : Ent L w) => Merge_at w1 w2 w3 rfl rfl rfl f1 f2 f3 rfl hc he (T := mrgT (entT 6 [] t1) (entT 6 [] t2) (entT 6 [] t3)) (n := 0) (e := 0) (a1 := a1) (a2 := a2) (a3 := a3) (c1 := c1) (c2 := c2) (c3 := c3) (l := L) hk1 hk2 hk3 h)
  have HM1 := SL.hid (fun (a1 a2 a3 : Option Addr) (c1 c2 c3 : Nat) (L : List HProp) (w : World) hk1 hk2 hk3 (h : Ent L w) => Merge_at w1 w4 w3 rfl g4 rfl f1 f4 f3 x1 x2 x3 (T := mrgT (entT 6 [] t1) (entT 6 [] t2) (entT 6 [] t3)) (n := 0) (e := 0) (a1 := a1) (a2 := a2) (a3 := a3) (c1 := c1) (c2 := c2) (c3 := c3) (l := L) hk1 hk2 hk3 h)
  have HM2 := SL.hid (fun (a1 a2 a3 : Option Addr) (c1 c2 c3 : Nat) (L : List HProp) (w : World) hk1 hk2 hk3 (h : Ent L w) => Merge_at w1 w4 w2 rfl g4 rfl f1 f4 f2 y1 y2 y3 (T := mrgT (entT 6 [] t1) (entT 6 [] t2) (entT 6 [] t3)) (n := 0) (e := 0) (a1 := a1) (a2 := a2) (a3 := a3) (c1 := c1) (c2 := c2) (c3 := c3) (l := L) hk1 hk2 hk3 h)
  have HAl := SL.hid (fun (a1 a2 : Option Addr) (c1 c2 : Nat) (L : List HProp) (w : World) hk1 hk2 (h : Ent L w) => alike_at w4 w4 (by omega) (by omega) (decide_eq_true rfl) (a1 := a1) (a2 := a2) (c1 := c1) (c2 := c2) (l := L) hk1 hk2 h)
  unfold TgPost at HT1 HT2 HT3
  unfold GmPost at HM0 HM1 HM2
  clear h1 h2 h3 w1 w2 w3 w4 f1 f2 f3 f4 g4 n4 n5 x1 x2 x3 y1 y2 y3 he hc h_xs h_ys h_zs
  generalize mrgT (entT 6 [] t1) (entT 6 [] t2) (entT 6 [] t3) = T at *
  generalize entT 6 [] t1 = es1 at *
  generalize entT 6 [] t2 = es2 at *
  generalize entT 6 [] t3 = es3 at *
  have A1 := SL.hid True.intro
  have A2 := SL.hid True.intro
  have A3 := SL.hid True.intro
  have M1 := SL.hid True.intro
  have M2 := SL.hid True.intro
  have M3 := SL.hid True.intro
  have L1 := SL.hid True.intro
  have L2 := SL.hid True.intro
  go_enter Tryd.func5, Tryd.ntmps5
  go_wp2_with (first
    | go_skip
    | (clear A1; go_at_call 11; refine (HT1.out _ _ sfx hE).mono ?_; clear hE; rintro e w2 ⟨v, h1, m, ka1, kc1, ea1, ec1, h2, hE, hK1, hR1⟩; cases h1; cases h2)
    | (clear A2; go_at_call 11; refine (HT2.out _ _ sfx hE).mono ?_; clear hE; rintro e w2 ⟨v, h1, m, ka2, kc2, ea2, ec2, h2, hE, hK2, hR2⟩; cases h1; cases h2)
    | (clear A3; go_at_call 11; refine (HT3.out _ _ sfx hE).mono ?_; clear hE; rintro e w2 ⟨v, h1, m, ka3, kc3, ea3, ec3, h2, hE, hK3, hR3⟩; cases h1; cases h2)
    | ((with_reducible (show Go.wpList _ _ _ (Go.Oper.mk _ (.alloc 35) _ _ _ _ :: _) _ _)); refine wpl_alloc hE rfl rfl (by simp [go_sem]; rfl) ?_; clear hE; intro b w hE; simp only [Act.eval, Act.put, List.setIfInBounds_toArray, List.set_cons_zero, List.set_cons_succ, getD_lit, List.getD_cons_succ, List.getD_cons_zero, Value.cells] at hE)
    | ((with_reducible (show Go.wpList _ _ _ (Go.Oper.mk _ (.store 35 (.tmp 7) _) _ _ _ _ :: _) _ _)); refine wpl_storeW hE 0 rfl rfl rfl (xs := [_, _, _]) rfl rfl Tryd.sizeOf35 rfl (by simp [Value.oneCell']) rfl ?_; clear hE; intro w hE; simp only [List.set_cons_zero] at hE; have F1 := SL.hid (node_knows hE))
    | ((with_reducible (show Go.wpList _ _ _ (Go.Oper.mk _ (.store 35 (.tmp 10) _) _ _ _ _ :: _) _ _)); refine wpl_storeW hE 0 rfl rfl rfl (xs := [_, _, _]) rfl rfl Tryd.sizeOf35 rfl (by simp [Value.oneCell']) rfl ?_; clear hE; intro w hE; simp only [List.set_cons_zero] at hE; have F2 := SL.hid (node_knows hE))
    | ((with_reducible (show Go.wpList _ _ _ (Go.Oper.mk _ (.store 35 (.tmp 13) _) _ _ _ _ :: _) _ _)); refine wpl_storeW hE 0 rfl rfl rfl (xs := [_, _, _]) rfl rfl Tryd.sizeOf35 rfl (by simp [Value.oneCell']) rfl ?_; clear hE; intro w hE; simp only [List.set_cons_zero] at hE; have F3 := SL.hid (node_knows hE))
    | ((with_reducible (show Go.wpList _ _ _ (Go.Oper.mk _ (.store 35 (.tmp 16) _) _ _ _ _ :: _) _ _)); refine wpl_storeW hE 0 rfl rfl rfl (xs := [_, _, _]) rfl rfl Tryd.sizeOf35 rfl (by simp [Value.oneCell']) rfl ?_; clear hE; intro w hE; simp only [List.set_cons_zero] at hE; have F4 := SL.hid (node_knows hE))
    | ((with_reducible (show Go.wpList _ _ _ (Go.Oper.mk _ (.store 35 (.tmp 19) _) _ _ _ _ :: _) _ _)); refine wpl_storeW hE 0 rfl rfl rfl (xs := [_, _, _]) rfl rfl Tryd.sizeOf35 rfl (by simp [Value.oneCell']) rfl ?_; clear hE; intro w hE; simp only [List.set_cons_zero] at hE; have F5 := SL.hid (node_knows hE))
    | ((with_reducible (show Go.wpList _ _ _ (Go.Oper.mk _ (.store 35 (.tmp 22) _) _ _ _ _ :: _) _ _)); refine wpl_storeW hE 0 rfl rfl rfl (xs := [_, _, _]) rfl rfl Tryd.sizeOf35 rfl (by simp [Value.oneCell']) rfl ?_; clear hE; intro w hE; simp only [List.set_cons_zero] at hE; have F6 := SL.hid (node_knows hE))
    | ((with_reducible (show Go.wpList _ _ _ (Go.Oper.mk _ (.load 35 (.tmp 7)) _ _ _ _ :: _) _ _)); refine wpl_loadK rfl rfl rfl (F1.out _ (hE.suf sfx)) ?_)
    | ((with_reducible (show Go.wpList _ _ _ (Go.Oper.mk _ (.load 35 (.tmp 10)) _ _ _ _ :: _) _ _)); refine wpl_loadK rfl rfl rfl (F2.out _ (hE.suf sfx)) ?_)
    | ((with_reducible (show Go.wpList _ _ _ (Go.Oper.mk _ (.load 35 (.tmp 13)) _ _ _ _ :: _) _ _)); refine wpl_loadK rfl rfl rfl (F3.out _ (hE.suf sfx)) ?_)
    | ((with_reducible (show Go.wpList _ _ _ (Go.Oper.mk _ (.load 35 (.tmp 16)) _ _ _ _ :: _) _ _)); refine wpl_loadK rfl rfl rfl (F4.out _ (hE.suf sfx)) ?_)
    | ((with_reducible (show Go.wpList _ _ _ (Go.Oper.mk _ (.load 35 (.tmp 19)) _ _ _ _ :: _) _ _)); refine wpl_loadK rfl rfl rfl (F5.out _ (hE.suf sfx)) ?_)
    | ((with_reducible (show Go.wpList _ _ _ (Go.Oper.mk _ (.load 35 (.tmp 22)) _ _ _ _ :: _) _ _)); refine wpl_loadK rfl rfl rfl (F6.out _ (hE.suf sfx)) ?_)
    | (clear M1; go_at_call 12; refine (HM0.out _ _ _ _ _ _ _ _ (hK1.suf sfx) (hK2.suf sfx) (hK3.suf sfx) hE).mono ?_; clear hE; rintro e w2 ⟨v, h1, m, ka4, kc4, ca4, cc4, h2, hE, hK4⟩; cases h1; cases h2)
    | (clear M2; go_at_call 12; refine (HM1.out _ _ _ _ _ _ _ _ (hK1.suf sfx) (hK4.suf sfx) (hK3.suf sfx) hE).mono ?_; clear hE; rintro e w2 ⟨v, h1, m, ka5, kc5, ca5, cc5, h2, hE, hK5⟩; cases h1; cases h2)
    | (clear M3; go_at_call 12; refine (HM2.out _ _ _ _ _ _ _ _ (hK1.suf sfx) (hK4.suf sfx) (hK2.suf sfx) hE).mono ?_; clear hE; rintro e w2 ⟨v, h1, m, ka6, kc6, ca6, cc6, h2, hE, hK6⟩; cases h1; cases h2)
    | (clear L1; go_at_call 13; refine (HAl.out _ _ _ _ _ _ (hK5.suf sfx) (hK4.suf sfx) hE).mono ?_; clear hE; rintro e w2 ⟨v, h1, h2, m, hE⟩; cases h1; cases h2)
    | (clear L2; go_at_call 13; refine (HAl.out _ _ _ _ _ _ (hK6.suf sfx) (hK4.suf sfx) hE).mono ?_; clear hE; rintro e w2 ⟨v, h1, h2, m, hE⟩; cases h1; cases h2)
    | (go_at_call 7; refine (wakes29_any hE).mono ?_; clear hE; rintro e w2 ⟨v, h1, h2, m9, hE⟩; cases h1; cases h2))
  refine bodyPost_ret (results_tmp rfl _ _ _) rfl ?_
  exact ⟨_, rfl, rfl, hE.suf sfx⟩
theorem twice_yes {xs : List En} {ys : List En} {zs : List En} {a_xs : Option Addr} {c_xs : Nat} {a_ys : Option Addr} {c_ys : Nat} {a_zs : Option Addr} {c_zs : Nat} {t1 t2 t3 : Tr} (h1 : treeP xs = some t1) (h2 : treeP ys = some t2) (h3 : treeP zs = some t3) {l : List HProp} {w : World} (h_xs : Knows l (reads (.slice a_xs xs.length c_xs) xs.length (xs.flatMap enC))) (h_ys : Knows l (reads (.slice a_ys ys.length c_ys) ys.length (ys.flatMap enC))) (h_zs : Knows l (reads (.slice a_zs zs.length c_zs) zs.length (zs.flatMap enC))) (hE : Ent l w) :
    Calls Tryd.prog 5 #[.slice a_xs xs.length c_xs, .slice a_ys ys.length c_ys, .slice a_zs zs.length c_zs] w (Ret fun v w' => v = .bool true ∧ Ent l w') := by
  by_cases he : mrgE (entT 6 [] t1) (entT 6 [] t2) (entT 6 [] t3) = 0
  · by_cases hc : (mrgC (entT 6 [] t1) (entT 6 [] t2) (entT 6 [] t3)).length = 0
    · exact twice_good h1 h2 h3 he hc h_xs h_ys h_zs hE
    · exact twice_bad h1 h2 h3 he rfl (.inr ⟨rfl, by omega⟩) h_xs h_ys h_zs hE
  · exact twice_bad h1 h2 h3 rfl rfl (.inl he) h_xs h_ys h_zs hE
theorem MergeTwice_any {xs : List En} {ys : List En} {zs : List En} {a_xs : Option Addr} {c_xs : Nat} {a_ys : Option Addr} {c_ys : Nat} {a_zs : Option Addr} {c_zs : Nat} {l : List HProp} {w : World} (h_xs : Knows l (reads (.slice a_xs xs.length c_xs) xs.length (xs.flatMap enC))) (h_ys : Knows l (reads (.slice a_ys ys.length c_ys) ys.length (ys.flatMap enC))) (h_zs : Knows l (reads (.slice a_zs zs.length c_zs) zs.length (zs.flatMap enC))) (hE : Ent l w) :
    Calls Tryd.prog 5 #[.slice a_xs xs.length c_xs, .slice a_ys ys.length c_ys, .slice a_zs zs.length c_zs] w (Ret fun v w' => v = .bool true ∧ Ent l w') := by
  cases e1 : treeP xs with
  | none => exact twice_not (by rw [e1]; rfl) rfl rfl (.inl rfl) h_xs h_ys h_zs hE
  | some t1 =>
    cases e2 : treeP ys with
    | none => exact twice_not rfl (by rw [e2]; rfl) rfl (.inr (.inl rfl)) h_xs h_ys h_zs hE
    | some t2 =>
      cases e3 : treeP zs with
      | none => exact twice_not rfl rfl (by rw [e3]; rfl) (.inr (.inr (rfl))) h_xs h_ys h_zs hE
      | some t3 =>
        exact twice_yes e1 e2 e3 h_xs h_ys h_zs hE
theorem MergeTwice_in {xs : List En} {ys : List En} {zs : List En} {a_xs : Option Addr} {c_xs : Nat} {a_ys : Option Addr} {c_ys : Nat} {a_zs : Option Addr} {c_zs : Nat} {W : World} (h_xs : Knows [rest W fun _ => False] (reads (.slice a_xs xs.length c_xs) xs.length (xs.flatMap enC))) (h_ys : Knows [rest W fun _ => False] (reads (.slice a_ys ys.length c_ys) ys.length (ys.flatMap enC))) (h_zs : Knows [rest W fun _ => False] (reads (.slice a_zs zs.length c_zs) zs.length (zs.flatMap enC))) :
    Calls Tryd.prog 5 #[.slice a_xs xs.length c_xs, .slice a_ys ys.length c_ys, .slice a_zs zs.length c_zs] W (Ret fun v w' => v = .bool true ∧ Ent [rest W fun _ => False] w') :=
  MergeTwice_any h_xs h_ys h_zs (Ent.start W)
end Go.Proofs.YtjdignaddfhohaaDoor
namespace Go.Proofs.YtjdignaddfhohaaDoor
open Go.RowKit Go.SL Go.ChangeShapes Go.WideShapes Go.Deep

set_option maxRecDepth 100000 in
theorem open_ens {H : Type} {enc : TypeId × Value → H} {w : World} {held : Bool} {r : Reach} {b0 : Nat} {v : Value} {d : DataW H} {ps : List MemPlace}
    (hval : Value.okWide Tryd.prog w r b0 32 v) (h : DataW.Trod enc Tryd.prog w 0 (fun _ => true) held 32 v d ps) :
    ∃ (ao : Option Addr) (c : Nat) (xs : List En), v = .slice ao xs.length c ∧ xs.length ≤ c ∧ c ≤ maxLen ∧ (∀ x ∈ xs, True) ∧ reads v xs.length (xs.flatMap enC) w :=
  open_row Tryd.underlying32 enC (fun _ => True) enC_len (by omega) (by kernel_rfl) hval h (fun m cs y hl hy => by
    obtain ⟨ys, n, _, _, _, hyl, hg⟩ := DataW.trod_struct Tryd.underlying51 hy
    match cs, hl with
    | [c0, c1, c2], _ =>
      have g0 := hg 0 _ rfl
      have g1 := hg 1 _ rfl
      have g2 := hg 2 _ rfl
      match ys, hyl with
      | [y0, y1, y2], _ =>
        obtain ⟨a, q0, _, _⟩ := DataW.trod_string Tryd.underlying9 (show DataW.trod enc Tryd.prog w 0 (fun _ => true) held n 9 [c0] = some y0 from g0)
        obtain ⟨b, q1, _⟩ := DataW.trod_bool Tryd.underlying4 (show DataW.trod enc Tryd.prog w 0 (fun _ => true) held n 4 [c1] = some y1 from g1)
        obtain ⟨c, q2, _, _⟩ := DataW.trod_string Tryd.underlying9 (show DataW.trod enc Tryd.prog w 0 (fun _ => true) held n 9 [c2] = some y2 from g2)
        simp only [List.cons.injEq, and_true] at q0 q1 q2
        subst q0 q1 q2
        exact ⟨⟨a.data.toList, b, c.data.toList⟩, trivial, rfl⟩)
end Go.Proofs.YtjdignaddfhohaaDoor
