/-
  The names of a path, as the program takes them.
-/
import Derived.Test.YtohdljcpaogokaaDoorPa4
import Derived.Test.YtohdljcpaogokaaDoorSln
namespace Go.SL
theorem results_2v {P : Program} {w : World} {fn : Func} {k j : Tmp} {t u : TypeId} (h : fn.results = #[.cell k t, .cell j u]) {tmps : Array Value} {b b2 : Nat} {v v2 : Value} (hp : tmps.getD k undef = .pointer (some ⟨b, 0, none⟩)) (hp2 : tmps.getD j undef = .pointer (some ⟨b2, 0, none⟩))
    (hA : ∀ w, (isAgg t).run P w = .ok false w) (hA2 : ∀ w, (isAgg u).run P w = .ok false w) (hc : w.cell? ⟨b, 0, none⟩ = some v) (hc2 : w.cell? ⟨b2, 0, none⟩ = some v2) : (results fn tmps).run P w = .ok (.tuple #[v, v2]) w := by
  have hp' : tmps[k]?.getD undef = .pointer (some ⟨b, 0, none⟩) := by simpa using hp
  have hp2' : tmps[j]?.getD undef = .pointer (some ⟨b2, 0, none⟩) := by simpa using hp2
  simp only [results, h]
  simp [hp', hp2', asAddr, loadVar, hA, hA2, hc, hc2]
end Go.SL
namespace Go.Proofs.YtohdljcpaogokaaDoor
open Go.RowKit Go.SL

attribute [local go_sem] Oper.semAt_some wide_fn wide_depth

def strv (s : List UInt8) : Value := .string ⟨s.toArray⟩
abbrev rowS (ao : Option Addr) (c : Nat) (xs : List (List UInt8)) : HProp := row 9 1 (.slice ao xs.length c) xs.length (xs.map strv)
theorem info_str : elemInfo Tryd.prog 9 = some (some 1, 1, 16) := by kernel_rfl

def spI (b2 b3 b4 : Nat) (l : List HProp) (pre : List (List UInt8)) : List HProp :=
  pt b2 (.cells #[.slice none 0 0] 22) :: pt b3 (.cells #[.int .i64 0] 25) :: (ex fun z : { _z : Option Addr × Nat // pre.all isName = true } => [pt b4 (.cells #[.slice z.1.1 pre.length z.1.2] 22), rowS z.1.1 z.1.2 pre]) :: l
def spX (b2 b3 : Nat) (l : List HProp) (c : Code) (pre : List (List UInt8)) : List HProp :=
  pt b2 (.cells #[.slice none 0 0] 22) :: pt b3 (.cells #[.int .i64 7] 25) :: (ex fun _ : c = .ret ∧ pre.all isName = false => []) :: l

set_option maxRecDepth 100000 in
set_option maxHeartbeats 4000000 in
theorem Split_some {p : List UInt8} (hp : p.length ≤ 1000000) (h0 : p ≠ []) {l : List HProp} {w : World} (hE : Ent l w) :
    Calls Tryd.prog 9 #[.string ⟨p.toArray⟩] w (Ret fun v w' => ∃ ao c, v = .tuple #[.slice ao (splitL p).length c, .int .i64 (splitE p)] ∧ Ent (rowS ao c (splitL p) :: l) w') := by
  have hne : (p == []) = false := by simpa using h0
  refine calls_of_marks Tryd.func9 rfl ?_
  simp only [Tryd.ntmps9, List.size_toArray, List.length_cons, List.length_nil, Nat.reduceAdd, Nat.reduceSub, Array.replicate_succ, Array.replicate_zero, List.push_toArray, List.append_toArray, List.nil_append, List.cons_append]
  go_wp2_with (first
    | go_skip
    | ((with_reducible (show Go.wpList _ _ _ (Go.Oper.mk _ (.alloc 22) _ _ _ _ :: _) _ _)); refine wpl_alloc hE rfl rfl (by simp [go_sem]; rfl) ?_; clear hE; intro b2 w hE1; simp only [Act.eval, Act.put, List.setIfInBounds_toArray, List.set_cons_zero, List.set_cons_succ, getD_lit, List.getD_cons_succ, List.getD_cons_zero, Value.cells] at hE1)
    | ((with_reducible (show Go.wpList _ _ _ (Go.Oper.mk _ (.alloc 25) _ _ _ _ :: _) _ _)); refine wpl_alloc hE1 rfl rfl (by simp [go_sem]; rfl) ?_; clear hE1; intro b3 w hE2; simp only [Act.eval, Act.put, List.setIfInBounds_toArray, List.set_cons_zero, List.set_cons_succ, getD_lit, List.getD_cons_succ, List.getD_cons_zero, Value.cells] at hE2)
    | ((with_reducible (show Go.wpList _ _ _ (Go.Oper.mk _ (.alloc 22) _ _ _ _ :: _) _ _)); refine wpl_alloc hE2 rfl rfl (by simp [go_sem]; rfl) ?_; clear hE2; intro b4 w hE3; simp only [Act.eval, Act.put, List.setIfInBounds_toArray, List.set_cons_zero, List.set_cons_succ, getD_lit, List.getD_cons_succ, List.getD_cons_zero, Value.cells] at hE3)
    | (go_at_call 28; refine (SplitSeq_any p hE3).mono ?_; clear hE3; rintro e w2 ⟨v, rfl, bs, bsep, bsave, rfl, hE4⟩))
  refine wpIn_wide.1 (wpIn_rangeSL (gf := 48) rfl (enters_of Tryd.func48 (by kernel_rfl) rfl) (split_iter p (by omega) bs bsep bsave) (fun _ => rfl) (spI b2 b3 b4 l) (spX b2 b3 l) ?e0
    (fun x => { tmps := #[.string ⟨p.toArray⟩, undef, .pointer (some ⟨b2, 0, none⟩), .pointer (some ⟨b3, 0, none⟩), .pointer (some ⟨b4, 0, none⟩), .string ⟨x.toArray⟩, .string ⟨p.toArray⟩, .bool false, .string ⟨p.toArray⟩, .func (.func 48) #[] #[.pointer (some ⟨bsep, 0, none⟩), .pointer (some ⟨bs, 0, none⟩), .pointer (some ⟨bsave, 0, none⟩)], .string ⟨x.toArray⟩, undef, undef, undef, undef, undef, undef, undef, undef, undef, undef, undef], defers := [] }) ?assign ?body ?done ?stop)
  case e0 =>
    have h := ((hE4.nil 9 1).front 4 rfl)
    have h2 := Ent.pack (f := fun z : { _z : Option Addr × Nat // ([] : List (List UInt8)).all isName = true } => [pt b4 (.cells #[.slice z.1.1 ([] : List (List UInt8)).length z.1.2] 22), rowS z.1.1 z.1.2 []]) ⟨(none, 0), rfl⟩ h
    exact ((((h2.front 4 rfl).front 5 rfl).front 5 rfl).front 5 rfl).front 5 rfl
  case assign =>
    intro lp x W K hK
    gi_wp2
    exact hK
  case body =>
    intro lp pre x W L hpre hW
    obtain ⟨⟨⟨ao, c⟩, hall⟩, hW'⟩ := (hW.front 2 rfl).unpack
    have Hall := SL.hid hall
    replace hW : Ent (pt b4 (.cells #[.slice ao pre.length c] 22) :: rowS ao c pre :: pt b2 (.cells #[.slice none 0 0] 22) :: pt b3 (.cells #[.int .i64 0] 25) :: (l ++ L)) W := hW'
    clear hW' hall
    have hxm : x ∈ cuts p := by
      obtain ⟨t, ht⟩ := hpre
      rw [← ht]; simp
    have hxl := (cuts_len p).2 x hxm
    have hpl : pre.length ≤ 1000001 := by
      have h1 := hpre.length_le
      have h2 := (cuts_len p).1
      simp at h1
      omega
    have j4 : W.cell? ⟨b4, 0, none⟩ = some (.slice ao pre.length c) := hW.cell 0 rfl 0
    have Hpre := SL.hid hpre
    clear hpre hxm
    cases hn : isName x with
    | false =>
      have Hn := SL.hid (show (pre ++ [x]).all isName = false from List.all_eq_false.2 ⟨x, by simp, by simp [hn]⟩)
      have hN := fun w => Name_any x (by omega) w
      rw [hn] at hN
      clear hn
      have j2 : W.cell? ⟨b2, 0, none⟩ = some (.slice none 0 0) := hW.cell 2 rfl 0
      have f2 : W.frozen? ⟨b2, 0, none⟩ = false := hW.frozen 2 rfl 0
      have hS := (hW.setCell 2 rfl 0 (.slice none 0 0))
      have s3 : (W.setCell ⟨b2, 0, none⟩ (.slice none 0 0)).cell? ⟨b3, 0, none⟩ = some (.int .i64 0) := hS.cell 3 rfl 0
      have g3 : (W.setCell ⟨b2, 0, none⟩ (.slice none 0 0)).frozen? ⟨b3, 0, none⟩ = false := hS.frozen 3 rfl 0
      gi_wp2_with (gi_at_call 11; refine (CallsIn.inRound lp (callsIn_wide.2 (hN _))).mono ?_; rintro e w' ⟨rfl, rfl⟩)
      have hF := (hS.setCell 3 rfl 0 (.int .i64 7)).tail.tail
      have hG := Ent.pack (f := fun _ : Code.ret = .ret ∧ (pre ++ [x]).all isName = false => []) ⟨rfl, Hn.out⟩ hF
      exact (hG.front 2 rfl).front 2 rfl
    | true =>
      have Hn := SL.hid (show (pre ++ [x]).all isName = true by rw [List.all_append, Hall.out]; simp [hn])
      have hN := fun w => Name_any x (by omega) w
      rw [hn] at hN
      clear hn
      gi_wp2_with (first
        | (gi_at_call 11; refine (CallsIn.inRound lp (callsIn_wide.2 (hN _))).mono ?_; rintro e w' ⟨rfl, rfl⟩)
        | (refine wplIn_one rfl rfl rfl (by intro c h; cases h) (by rintro ⟨_, _, h⟩; exact h) ?_; (with_reducible (show Go.wpList _ _ _ (Go.Oper.mk _ (.call { callee := .builtin .append, args := _, argTypes := _ }) _ _ _ _ :: _) _ _)); have hE9 := hW.alloc (.cells #[.string ⟨x.toArray⟩] 9); refine wpl_appendG hE9 2 rfl rfl rfl rfl rfl Tryd.underlying22 info_str (by decide) (m := 1) (news := [strv x]) (reads_pt hE9 0 rfl (off := 0) (fun j u hu => by rw [Nat.zero_add, List.getElem?_toArray]; exact hu)) rfl (by simp [strv, Value.oneCell']) (by omega) (by omega) ?_; clear hE9 hW; intro ao' c' w6 hE10; simp only [List.set_cons_zero, List.set_cons_succ] at hE10; refine wplIn_nil ?_)
        | (refine wplIn_one rfl rfl rfl (by intro c h; cases h) (by rintro ⟨_, _, h⟩; exact h) ?_; (with_reducible (show Go.wpList _ _ _ (Go.Oper.mk _ (.store 22 _ _) _ _ _ _ :: _) _ _)); refine wpl_store hE10 1 rfl rfl rfl rfl rfl (by simp [go_sem]; rfl) (by rfl) (by simp [Act.put, Value.cells, Value.oneCell', Act.eval]) (by simp) ?_; clear hE10; intro w hE11; simp only [Act.eval, getD_lit, List.getD_cons_succ, List.getD_cons_zero, Value.cells, List.set_cons_zero, List.set_cons_succ, List.take_succ_cons, List.take_zero, List.nil_append, List.cons_append, List.drop_succ_cons, List.drop_zero, List.length_cons, List.length_nil, Nat.reduceAdd, Nat.zero_add] at hE11; refine wplIn_nil ?_))
      have hF := hE11.tail
      have e1 : (pre ++ [x]).length = pre.length + 1 := by simp
      have e2 : (pre ++ [x]).map strv = pre.map strv ++ [strv x] := by simp
      have hG := Ent.pack (f := fun z : { _z : Option Addr × Nat // (pre ++ [x]).all isName = true } => [pt b4 (.cells #[.slice z.1.1 (pre ++ [x]).length z.1.2] 22), rowS z.1.1 z.1.2 (pre ++ [x])]) ⟨(ao', c'), Hn.out⟩ (by simp only [rowS, e1, e2]; exact hF)
      exact (hG.front 2 rfl).front 2 rfl
  case done =>
    intro D W hW
    obtain ⟨⟨⟨ao, c⟩, hall⟩, hW'⟩ := (hW.front 3 rfl).unpack
    replace hW : Ent (pt b4 (.cells #[.slice ao (cuts p).length c] 22) :: rowS ao c (cuts p) :: pt D (.deferred (some [])) :: pt b2 (.cells #[.slice none 0 0] 22) :: pt b3 (.cells #[.int .i64 0] 25) :: l) W := hW'
    clear hW'
    by_cases h6 : (cuts p).length ≤ 6
    · have R := SL.hid (split_good h0 hall h6)
      have hd : decide ((6 : Int) < ((cuts p).length : Int)) = false := decide_eq_false (by omega)
      clear h6 hall
      go_wp2_with (first
        | go_skip
        | ((with_reducible (show Go.wpList _ _ _ (Go.Oper.mk _ (.load 22 _) _ _ _ _ :: _) _ _)); refine wpl_load1 hW 0 rfl rfl rfl rfl (by simp [go_sem]) rfl ?_)
        | ((with_reducible (show Go.wpList _ _ _ (Go.Oper.mk _ (.store 22 _ _) _ _ _ _ :: _) _ _)); refine wpl_store hW 3 rfl rfl rfl rfl rfl (by simp [go_sem]; rfl) (by rfl) (by simp [Act.put, Value.cells, Value.oneCell', Act.eval]) (by simp) ?_; clear hW; intro w hE1; simp only [Act.eval, getD_lit, List.getD_cons_succ, List.getD_cons_zero, Value.cells, List.set_cons_zero, List.set_cons_succ, List.take_succ_cons, List.take_zero, List.nil_append, List.cons_append, List.drop_succ_cons, List.drop_zero, List.length_cons, List.length_nil, Nat.reduceAdd, Nat.zero_add] at hE1)
        | ((with_reducible (show Go.wpList _ _ _ (Go.Oper.mk _ (.store 25 _ _) _ _ _ _ :: _) _ _)); refine wpl_store hE1 4 rfl rfl rfl rfl rfl (by simp [go_sem]; rfl) (by rfl) (by simp [Act.put, Value.cells, Value.oneCell', Act.eval]) (by simp) ?_; clear hE1; intro w hE2; simp only [Act.eval, getD_lit, List.getD_cons_succ, List.getD_cons_zero, Value.cells, List.set_cons_zero, List.set_cons_succ, List.take_succ_cons, List.take_zero, List.nil_append, List.cons_append, List.drop_succ_cons, List.drop_zero, List.length_cons, List.length_nil, Nat.reduceAdd, Nat.zero_add] at hE2))
      refine post_mark rfl (hE2.front 2 rfl) (fun w' hw' => ⟨_, results_2v rfl rfl rfl (by simp [go_sem]) (by simp [go_sem]) (hw'.cell 2 rfl 0) (hw'.cell 3 rfl 0), _, rfl, ao, c, ?_, ?_⟩)
      · rw [R.out.1, R.out.2]; rfl
      · rw [R.out.1]
        exact ((hw'.tail.erase 1).erase 1)
    · have R := SL.hid (split_many h0 hall h6)
      have hd : (6 : Int) < ((cuts p).length : Int) := by omega
      clear h6 hall
      go_wp2_with (first
        | go_skip
        | ((with_reducible (show Go.wpList _ _ _ (Go.Oper.mk _ (.load 22 _) _ _ _ _ :: _) _ _)); refine wpl_load1 hW 0 rfl rfl rfl rfl (by simp [go_sem]) rfl ?_)
        | ((with_reducible (show Go.wpList _ _ _ (Go.Oper.mk _ (.store 22 _ _) _ _ _ _ :: _) _ _)); refine wpl_store hW 3 rfl rfl rfl rfl rfl (by simp [go_sem]; rfl) (by rfl) (by simp [Act.put, Value.cells, Value.oneCell', Act.eval]) (by simp) ?_; clear hW; intro w hE1; simp only [Act.eval, getD_lit, List.getD_cons_succ, List.getD_cons_zero, Value.cells, List.set_cons_zero, List.set_cons_succ, List.take_succ_cons, List.take_zero, List.nil_append, List.cons_append, List.drop_succ_cons, List.drop_zero, List.length_cons, List.length_nil, Nat.reduceAdd, Nat.zero_add] at hE1)
        | ((with_reducible (show Go.wpList _ _ _ (Go.Oper.mk _ (.store 25 _ _) _ _ _ _ :: _) _ _)); refine wpl_store hE1 4 rfl rfl rfl rfl rfl (by simp [go_sem]; rfl) (by rfl) (by simp [Act.put, Value.cells, Value.oneCell', Act.eval]) (by simp) ?_; clear hE1; intro w hE2; simp only [Act.eval, getD_lit, List.getD_cons_succ, List.getD_cons_zero, Value.cells, List.set_cons_zero, List.set_cons_succ, List.take_succ_cons, List.take_zero, List.nil_append, List.cons_append, List.drop_succ_cons, List.drop_zero, List.length_cons, List.length_nil, Nat.reduceAdd, Nat.zero_add] at hE2))
      refine post_mark rfl (hE2.front 2 rfl) (fun w' hw' => ⟨_, results_2v rfl rfl rfl (by simp [go_sem]) (by simp [go_sem]) (hw'.cell 2 rfl 0) (hw'.cell 3 rfl 0), _, rfl, none, 0, ?_, ?_⟩)
      · rw [R.out.1, R.out.2]; rfl
      · rw [R.out.1]
        exact (hw'.tail.tail.tail.tail.nil _ _)
  case stop =>
    intro D c pre W hpre hW
    obtain ⟨⟨rfl, hbad⟩, hW'⟩ := (hW.front 3 rfl).unpack
    have R := SL.hid (show splitL p = [] ∧ splitE p = 7 by
      obtain ⟨x, hx, hxn⟩ := List.all_eq_false.1 hbad
      obtain ⟨t, ht⟩ := hpre
      exact split_bad h0 (x := x) (by rw [← ht]; simp [hx]) (by simpa using hxn))
    replace hW : Ent (pt D (.deferred (some [])) :: pt b2 (.cells #[.slice none 0 0] 22) :: pt b3 (.cells #[.int .i64 7] 25) :: l) W := hW'
    clear hW' hbad hpre
    refine wpIn_wide.2 ?_
    go_wp2
    refine post_mark rfl hW (fun w' hw' => ⟨_, results_2v rfl rfl rfl (by simp [go_sem]) (by simp [go_sem]) (hw'.cell 0 rfl 0) (hw'.cell 1 rfl 0), _, rfl, none, 0, ?_, ?_⟩)
    · rw [R.out.1, R.out.2]; rfl
    · rw [R.out.1]
      exact hw'.tail.tail.nil _ _

set_option maxRecDepth 100000 in
theorem Split_any {p : List UInt8} (hp : p.length ≤ 1000000) {l : List HProp} {w : World} (hE : Ent l w) :
    Calls Tryd.prog 9 #[.string ⟨p.toArray⟩] w (Ret fun v w' => ∃ ao c, v = .tuple #[.slice ao (splitL p).length c, .int .i64 (splitE p)] ∧ Ent (rowS ao c (splitL p) :: l) w') := by
  by_cases h0 : p = []
  · subst h0
    refine calls_of_marks Tryd.func9 rfl ?_
    simp only [Tryd.ntmps9, List.size_toArray, List.length_cons, List.length_nil, Nat.reduceAdd, Nat.reduceSub, Array.replicate_succ, Array.replicate_zero, List.push_toArray, List.append_toArray, List.nil_append, List.cons_append]
    go_wp2_with (first
      | go_skip
      | ((with_reducible (show Go.wpList _ _ _ (Go.Oper.mk _ (.alloc 22) _ _ _ _ :: _) _ _)); refine wpl_alloc hE rfl rfl (by simp [go_sem]; rfl) ?_; clear hE; intro b2 w hE1; simp only [Act.eval, Act.put, List.setIfInBounds_toArray, List.set_cons_zero, List.set_cons_succ, getD_lit, List.getD_cons_succ, List.getD_cons_zero, Value.cells] at hE1)
      | ((with_reducible (show Go.wpList _ _ _ (Go.Oper.mk _ (.alloc 25) _ _ _ _ :: _) _ _)); refine wpl_alloc hE1 rfl rfl (by simp [go_sem]; rfl) ?_; clear hE1; intro b3 w hE2; simp only [Act.eval, Act.put, List.setIfInBounds_toArray, List.set_cons_zero, List.set_cons_succ, getD_lit, List.getD_cons_succ, List.getD_cons_zero, Value.cells] at hE2)
      | ((with_reducible (show Go.wpList _ _ _ (Go.Oper.mk _ (.store 22 _ _) _ _ _ _ :: _) _ _)); refine wpl_store hE2 1 rfl rfl rfl rfl rfl (by simp [go_sem]; rfl) (by rfl) (by simp [Act.put, Value.cells, Value.oneCell', Act.eval]) (by simp) ?_; clear hE2; intro w hE3; simp only [Act.eval, getD_lit, List.getD_cons_succ, List.getD_cons_zero, Value.cells, List.set_cons_zero, List.set_cons_succ, List.take_succ_cons, List.take_zero, List.nil_append, List.cons_append, List.drop_succ_cons, List.drop_zero, List.length_cons, List.length_nil, Nat.reduceAdd, Nat.zero_add] at hE3)
      | ((with_reducible (show Go.wpList _ _ _ (Go.Oper.mk _ (.store 25 _ _) _ _ _ _ :: _) _ _)); refine wpl_store hE3 0 rfl rfl rfl rfl rfl (by simp [go_sem]; rfl) (by rfl) (by simp [Act.put, Value.cells, Value.oneCell', Act.eval]) (by simp) ?_; clear hE3; intro w hE4; simp only [Act.eval, getD_lit, List.getD_cons_succ, List.getD_cons_zero, Value.cells, List.set_cons_zero, List.set_cons_succ, List.take_succ_cons, List.take_zero, List.nil_append, List.cons_append, List.drop_succ_cons, List.drop_zero, List.length_cons, List.length_nil, Nat.reduceAdd, Nat.zero_add] at hE4))
    refine post_none rfl (results_2v rfl rfl rfl (by simp [go_sem]) (by simp [go_sem]) (hE4.cell 1 rfl 0) (hE4.cell 0 rfl 0)) ⟨_, rfl, none, 0, rfl, ?_⟩
    exact hE4.tail.tail.nil _ _
  · exact Split_some hp h0 hE
end Go.Proofs.YtohdljcpaogokaaDoor
