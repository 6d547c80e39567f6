/-
  The text of sheets, as the program joins them.
-/
import Derived.Test.YtdpfigkjkjjedaaDoorRecordsF3
namespace Go.Proofs.YtdpfigkjkjjedaaDoor
open Go.RowKit Go.SL
attribute [local go_sem] Oper.semAt_some wide_fn wide_depth shV

theorem results_2v {P : Program} {w : World} {fn : Func} {k j : Tmp} {t u : TypeId} (h : fn.results = #[.cell k t, .cell j u]) {tmps : Array Value} {b b2 : Nat} {v v2 : Value} (hp : tmps.getD k undef = .pointer (some ⟨b, 0, none⟩)) (hp2 : tmps.getD j undef = .pointer (some ⟨b2, 0, none⟩))
    (hA : ∀ w, (isAgg t).run P w = .ok false w) (hA2 : ∀ w, (isAgg u).run P w = .ok false w) (hc : w.cell? ⟨b, 0, none⟩ = some v) (hc2 : w.cell? ⟨b2, 0, none⟩ = some v2) : (results fn tmps).run P w = .ok (.tuple #[v, v2]) w := by
  have hp' : tmps[k]?.getD undef = .pointer (some ⟨b, 0, none⟩) := by simpa using hp
  have hp2' : tmps[j]?.getD undef = .pointer (some ⟨b2, 0, none⟩) := by simpa using hp2
  simp only [results, h]
  simp [hp', hp2', asAddr, loadVar, hA, hA2, hc, hc2]

/-- where a sheet of a row lies -/
theorem sht_at {w : World} {ao : Option Addr} {c : Nat} {xs : List Sht} (hr : reads (.slice ao xs.length c) xs.length (xs.flatMap shC) w) {k : Nat} (hk : k < xs.length) : ∃ b off, ao = some ⟨b, off, none⟩ ∧ ∀ j v, (shC xs[k])[j]? = some v → w.cell? ((⟨b, off + k * 3, none⟩ : Addr).add j) = some v := by
  obtain ⟨b, off, rfl, hc⟩ := reads_form hr (by omega) (by rw [shC_flat_len]; omega)
  refine ⟨b, off, rfl, fun j v hv => ?_⟩
  rw [Addr.add_lit, Nat.add_assoc]
  exact hc _ _ (flatMap_at shC 3 shC_len xs k j xs[k] v (List.getElem?_eq_getElem hk) hv)

theorem eqSht (x y : Sht) (w : World) : (Op.equalIn 10000 30 (.agg #[.int .u64 x.seq, .bool x.last, .string ⟨x.text.toArray⟩]) (.agg #[.int .u64 y.seq, .bool y.last, .string ⟨y.text.toArray⟩])).run Tryd.prog w = .ok (x == y) w := by
  have h := run_equalIn_agg (P := Tryd.prog) (w := w) 9999 30 #[.int .u64 x.seq, .bool x.last, .string ⟨x.text.toArray⟩] #[.int .u64 y.seq, .bool y.last, .string ⟨y.text.toArray⟩] (by kernel_rfl) (by kernel_rfl)
  refine h.trans ?_
  simp [go_sem]
  obtain ⟨a1, a2, a3⟩ := x
  obtain ⟨b1, b2, b3⟩ := y
  have e : ((⟨a1, a2, a3⟩ : Sht) == ⟨b1, b2, b3⟩) = decide (a1 = b1 ∧ a2 = b2 ∧ a3 = b3) := by
    rw [Bool.eq_iff_iff]; simp
  rw [e]
  by_cases h1 : a1 = b1
  · by_cases h2 : a2 = b2
    · by_cases h3 : a3 = b3
      · simp [h1, h2, h3]
      · simp [h1, h2, h3]
    · simp [h1, h2]
  · have h1' : ¬ ((a1 : Int) = b1) := by omega
    simp [h1, h1']
theorem pre_snoc {α : Type} {pre xs : List α} (h : pre <+: xs) (hi : pre.length < xs.length) : pre ++ [xs[pre.length]] <+: xs := by
  obtain ⟨r, rfl⟩ := h
  have : 0 < r.length := by simpa using hi
  obtain ⟨y, r, rfl⟩ : ∃ y r', r = y :: r' := by cases r with | nil => simp at this | cons y r => exact ⟨y, r, rfl⟩
  simp only [List.getElem_append_right (Nat.le_refl _), Nat.sub_self, List.getElem_cons_zero]
  exact ⟨r, by simp⟩
theorem pre_at {α : Type} {pre xs : List α} {x : α} (h : pre ++ [x] <+: xs) : ∃ hi : pre.length < xs.length, xs[pre.length] = x := by
  obtain ⟨r, rfl⟩ := h
  exact ⟨by simp, by simp⟩
theorem _root_.Go.SL.Ent.left {l m : List HProp} {w : World} (h : Ent (l ++ m) w) : Ent l w := by
  unfold Ent at h ⊢
  obtain ⟨F, hF⟩ := h
  obtain ⟨F1, F2, h1, _⟩ := all_append_on.1 hF
  exact ⟨F1, h1⟩
def jnI (b1 b2 b3 b4 b7 : Nat) (v : Value) (xs : List Sht) (l : List HProp) (pre : List Sht) : List HProp :=
  pt b2 (.cells #[.string ⟨#[]⟩] 9) :: pt b3 (.cells #[.bool false] 4) :: pt b7 (.cells #[.int .i64 pre.length] 3) :: pt b1 (.cells #[v] 39) :: bld b4 (allT xs) :: (ex fun _ : pre <+: xs => []) :: l
def jnX (b2 b3 : Nat) (xs : List Sht) (l : List HProp) (c : Code) (_ : List Sht) : List HProp :=
  pt b2 (.cells #[.string ⟨#[]⟩] 9) :: pt b3 (.cells #[.bool false] 4) :: (ex fun _ : c = .ret ∧ joinB xs = false => []) :: l
def JnRel (xs : List Sht) (b4 : Nat) (l : List HProp) (i : Value) (wr : World) : Prop := ∃ k : Nat, k ≤ xs.length ∧ i = .int .i64 k ∧ Ent (bld b4 (allT (xs.take k)) :: l) wr
theorem allT_len (xs : List Sht) (h : ∀ x ∈ xs, x.text.length ≤ 1000) : (allT xs).length ≤ xs.length * 1000 := by
  induction xs with
  | nil => simp [allT]
  | cons x xs ih =>
    have h1 := h x (by simp)
    have h2 := ih (fun y hy => h y (by simp [hy]))
    simp only [allT, List.flatMap_cons, List.length_append, List.length_cons] at h2 ⊢
    omega
theorem allT_snoc (xs : List Sht) {k : Nat} (hk : k < xs.length) : allT (xs.take (k + 1)) = allT (xs.take k) ++ xs[k].text := by
  rw [List.take_succ_eq_append_getElem hk, allT_append]
  simp [allT]

set_option maxRecDepth 100000 in
set_option maxHeartbeats 4000000 in
attribute [-go_sem] Instr.loadAt Go.run_equalIn_agg in
theorem Join_some {xs : List Sht} (h0 : 0 < xs.length) (hn : xs.length ≤ 1000) (hx : ∀ x ∈ xs, x.text.length ≤ 1000) (hsq : ∀ x ∈ xs, x.seq < 18446744073709551616) {ao : Option Addr} {c : Nat} {l : List HProp} {w : World} (hk : Knows l (reads (.slice ao xs.length c) xs.length (xs.flatMap shC))) (hE : Ent l w) :
    Calls Tryd.prog 19 #[.slice ao xs.length c] w (Ret fun v w' => v = .tuple #[.string ⟨(joinT xs).toArray⟩, .bool (joinB xs)] ∧ Ent l w') := by
  have hne : ((xs.length : Int) == 0) = false := by rw [beq_eq_false_iff_ne]; omega
  refine calls_of_marks Tryd.func19 rfl ?_
  simp only [Tryd.ntmps19, List.size_toArray, List.length_cons, List.length_nil, Nat.reduceAdd, Nat.reduceSub, Array.replicate_succ, Array.replicate_zero, List.push_toArray, List.append_toArray, List.nil_append, List.cons_append]
  go_wp2_with (first
    | go_skip
    | ((with_reducible (show Go.wpList _ _ _ (Go.Oper.mk _ (.box _ _) _ _ _ _ :: _) _ _)); refine wpl_box hE rfl rfl rfl ?_; clear hE; intro b1 w hE; simp only [Act.eval, Act.put, List.setIfInBounds_toArray, List.set_cons_zero, List.set_cons_succ, getD_lit, List.getD_cons_succ, List.getD_cons_zero, Value.cells] at hE)
    | ((with_reducible (show Go.wpList _ _ _ (Go.Oper.mk _ (.alloc 9) _ _ _ _ :: _) _ _)); ((with_reducible (show Go.wpList _ _ _ (Go.Oper.mk _ (.alloc _) _ _ _ _ :: _) _ _)); refine wpl_alloc hE rfl rfl (by simp [go_sem]; rfl) ?_; clear hE; intro b2 w hE; simp only [Act.eval, Act.put, List.setIfInBounds_toArray, List.set_cons_zero, List.set_cons_succ, getD_lit, List.getD_cons_succ, List.getD_cons_zero, Value.cells] at hE))
    | ((with_reducible (show Go.wpList _ _ _ (Go.Oper.mk _ (.alloc 4) _ _ _ _ :: _) _ _)); ((with_reducible (show Go.wpList _ _ _ (Go.Oper.mk _ (.alloc _) _ _ _ _ :: _) _ _)); refine wpl_alloc hE rfl rfl (by simp [go_sem]; rfl) ?_; clear hE; intro b3 w hE; simp only [Act.eval, Act.put, List.setIfInBounds_toArray, List.set_cons_zero, List.set_cons_succ, getD_lit, List.getD_cons_succ, List.getD_cons_zero, Value.cells] at hE))
    | ((with_reducible (show Go.wpList _ _ _ (Go.Oper.mk _ (.alloc 125) _ _ _ _ :: _) _ _)); ((with_reducible (show Go.wpList _ _ _ (Go.Oper.mk _ (.alloc _) _ _ _ _ :: _) _ _)); refine wpl_alloc hE rfl rfl (by simp [go_sem]; rfl) ?_; clear hE; intro b4 w hE; simp only [Act.eval, Act.put, List.setIfInBounds_toArray, List.set_cons_zero, List.set_cons_succ, getD_lit, List.getD_cons_succ, List.getD_cons_zero, Value.cells] at hE); replace hE := bld_new hE)
    | ((with_reducible (show Go.wpList _ _ _ (Go.Oper.mk _ (.load _ _) _ _ _ _ :: _) _ _)); (first | (refine wpl_load1 hE 0 rfl rfl rfl rfl (by simp [go_sem]) rfl ?_) | (refine wpl_load1 hE 1 rfl rfl rfl rfl (by simp [go_sem]) rfl ?_) | (refine wpl_load1 hE 2 rfl rfl rfl rfl (by simp [go_sem]) rfl ?_) | (refine wpl_load1 hE 3 rfl rfl rfl rfl (by simp [go_sem]) rfl ?_) | (refine wpl_load1 hE 4 rfl rfl rfl rfl (by simp [go_sem]) rfl ?_) | (refine wpl_load1 hE 5 rfl rfl rfl rfl (by simp [go_sem]) rfl ?_) | (refine wpl_load1 hE 6 rfl rfl rfl rfl (by simp [go_sem]) rfl ?_) | (refine wpl_load1 hE 7 rfl rfl rfl rfl (by simp [go_sem]) rfl ?_))))
  clear hne
  go_loopw [14] (fun i wr => JnRel xs b4 (pt b3 (.cells #[.bool false] 4) :: pt b2 (.cells #[.string ⟨#[]⟩] 9) :: pt b1 (.cells #[.slice ao xs.length c] 39) :: l) i wr) (fun i _ => xs.length - (intOf i).toNat)
  case atStart => exact ⟨0, Nat.zero_le _, rfl, hE⟩
  case round =>
    clear hE
    obtain ⟨k, hkl, rfl, hE⟩ := hrel
    by_cases hlt : k < xs.length
    · have hcells := fun W (hW : Ent l W) => sht_at (hk W hW) hlt
      obtain ⟨b, off, rfl, _⟩ := hcells _ hE.tail.tail.tail.tail
      have hL := SL.hid (show ∀ W, Ent l W → ∀ j v, (shC xs[k])[j]? = some v → W.cell? ((⟨b, off + k * 3, none⟩ : Addr).add j) = some v from fun W hW => by
        obtain ⟨b', off', e, h⟩ := hcells W hW
        cases e
        exact h)
      clear hcells
      have hxl := hx _ (List.getElem_mem hlt)
      have hal := allT_len (xs.take k) (fun x hx' => hx x (List.mem_of_mem_take hx'))
      have hal2 : (xs.take k).length ≤ 1000 := by rw [List.length_take]; omega
      have Hs := SL.hid (allT_snoc xs hlt)
      have Hal := SL.hid (show (allT (xs.take k)).length + xs[k].text.length ≤ 140737488355328 by omega)
      clear hal hal2
      generalize xs[k] = x at *
      generalize allT (xs.take k) = pre at *
      go_wp2_with (first
        | go_skip
        | ((with_reducible (show Go.wpList _ _ _ (Go.Oper.mk _ (.load 30 _) _ _ _ _ :: _) _ _)); refine wpl_loadC rfl rfl rfl Tryd.isAgg30 Tryd.sizeOf30 (shC x) rfl (hL.out _ hE.tail.tail.tail.tail) ?_)
        | ((with_reducible (show Go.wpList _ _ _ (Go.Oper.mk _ (.alloc _) _ _ _ _ :: _) _ _)); refine wpl_allocN hE rfl rfl (n := 3) zs_sht ?_; clear hE; intro b6 cs w1 hq hE)
        | ((with_reducible (show Go.wpList _ _ _ (Go.Oper.mk _ (.store 30 _ _) _ _ _ _ :: _) _ _)); refine wpl_storeN hE 0 rfl rfl rfl rfl (xs := shC x) rfl Tryd.sizeOf30 rfl (shC_one x) hq ?_; clear hE; intro w2 hE; simp only [List.set_cons_zero] at hE)
        | ((with_reducible (show Go.wpList _ _ _ (Go.Oper.mk _ (.load 9 _) _ _ _ _ :: _) _ _)); refine wpl_load1 hE 0 rfl rfl rfl rfl (by simp [go_sem]) (v := .string ⟨x.text.toArray⟩) rfl ?_)
        | (go_at_call 60; refine (WriteString_any Hal.out (hE.front 1 rfl)).mono ?_; clear hE; rintro e w3 ⟨v, rfl, rfl, hE⟩))
      go_roundw
      case rel => exact ⟨k + 1, hlt, by first | rfl | simp, by rw [Hs.out]; exact hE.erase 1⟩
      case measure => simp [intOf] <;> omega
    · obtain rfl : k = xs.length := by omega
      have E1 : allT (xs.take xs.length) = allT xs := by rw [List.take_length]
      rw [E1] at hE
      clear E1 hlt hkl
      have hcells := fun W (hW : Ent l W) => sht_at (hk W hW) h0
      obtain ⟨b, off, rfl, _⟩ := hcells _ hE.tail.tail.tail.tail
      have hL := SL.hid (show ∀ W, Ent l W → W.cell? ⟨b, off, none⟩ = some (.int .u64 (xs[0]'h0).seq) from fun W hW => by
        obtain ⟨b', off', e, h⟩ := hcells W hW
        cases e
        have := h 0 _ rfl
        simpa [Addr.add_lit] using this)
      clear hcells
      have hs0 := hsq _ (List.getElem_mem h0)
      have HJ := SL.hid (show joinB xs = (cutL (xs[0]'h0).seq (allT xs) == xs) by cases xs with | nil => simp at h0 | cons x xs => rfl)
      generalize (xs[0]'h0).seq = sq at *
      have hal := allT_len xs hx
      have h00 : ¬ xs.length = 0 := by omega
      go_wp2_with (first
        | go_skip
        | ((with_reducible (show Go.wpList _ _ _ (Go.Oper.mk _ (.alloc 3) _ _ _ _ :: _) _ _)); ((with_reducible (show Go.wpList _ _ _ (Go.Oper.mk _ (.alloc _) _ _ _ _ :: _) _ _)); refine wpl_alloc hE rfl rfl (by simp [go_sem]; rfl) ?_; clear hE; intro b7 w hE; simp only [Act.eval, Act.put, List.setIfInBounds_toArray, List.set_cons_zero, List.set_cons_succ, getD_lit, List.getD_cons_succ, List.getD_cons_zero, Value.cells] at hE))
        | ((with_reducible (show Go.wpList _ _ _ (Go.Oper.mk _ (.store 3 _ _) _ _ _ _ :: _) _ _)); ((with_reducible (show Go.wpList _ _ _ (Go.Oper.mk _ (.store _ _ _) _ _ _ _ :: _) _ _)); (first | (refine wpl_st1 hE 0 rfl rfl rfl rfl rfl (by first | (simp [go_sem]; done) | (simp [go_sem]; rfl)) rfl rfl (by simp) ?_) | (refine wpl_st1 hE 1 rfl rfl rfl rfl rfl (by first | (simp [go_sem]; done) | (simp [go_sem]; rfl)) rfl rfl (by simp) ?_) | (refine wpl_st1 hE 2 rfl rfl rfl rfl rfl (by first | (simp [go_sem]; done) | (simp [go_sem]; rfl)) rfl rfl (by simp) ?_) | (refine wpl_st1 hE 3 rfl rfl rfl rfl rfl (by first | (simp [go_sem]; done) | (simp [go_sem]; rfl)) rfl rfl (by simp) ?_) | (refine wpl_st1 hE 4 rfl rfl rfl rfl rfl (by first | (simp [go_sem]; done) | (simp [go_sem]; rfl)) rfl rfl (by simp) ?_) | (refine wpl_st1 hE 5 rfl rfl rfl rfl rfl (by first | (simp [go_sem]; done) | (simp [go_sem]; rfl)) rfl rfl (by simp) ?_) | (refine wpl_st1 hE 6 rfl rfl rfl rfl rfl (by first | (simp [go_sem]; done) | (simp [go_sem]; rfl)) rfl rfl (by simp) ?_) | (refine wpl_st1 hE 7 rfl rfl rfl rfl rfl (by first | (simp [go_sem]; done) | (simp [go_sem]; rfl)) rfl rfl (by simp) ?_)); clear hE; intro w hE; simp only [Act.eval, getD_lit, List.getD_cons_succ, List.getD_cons_zero, List.set_cons_zero, List.set_cons_succ] at hE)))
      refine wp_onlyN ?_
      refine wp_region_held_drew (S := (fun w' => ((Instr.loadAt 39 (.pointer (some ⟨b1, 0, none⟩))).run Tryd.prog w' = .ok (.slice (some ⟨b, off, none⟩) xs.length c) w') ∧ ((Instr.loadAt 22 (.pointer (some ⟨b, off, none⟩))).run Tryd.prog w' = .ok (.int .u64 sq) w'))) (by kernel_rfl) ⟨(atVm hE.drew (by repeat (first | exact List.Mem.head _ | refine List.Mem.tail _ ?_)) (by simp [go_sem]) rfl), (atCell (hL.out _ (hE.drew.suf (by repeat (first | exact List.suffix_refl _ | refine List.IsSuffix.trans ?_ (List.suffix_cons _ _))))) (by simp [go_sem]))⟩ (fun hS => ?_)
      refine takeW 0 ⟨some 22, .load 39 (.tmp 1), 39, "sheet.go:88", #[], none⟩ ?_ (.inl ⟨by rfl, ?_⟩) hS ?_
      rotate_left
      · (intro w hSw; (try dsimp only at hSw); go_simp; (try with_reducible rfl))
      try simp only [Act.put, sb, s0, sz]
      refine takeW 1 ⟨some 23, .indexAddr 39 (.tmp 22) (.const (.int .i64 0)), 0, "sheet.go:88", #[⟨0, .data⟩], none⟩ ?_ (.inl ⟨by rfl, ?_⟩) hS ?_
      rotate_left
      · (intro w hSw; (try dsimp only at hSw); go_simp; (try with_reducible rfl))
      try simp only [Act.put, sb, s0, sz]
      refine takeW 2 ⟨some 24, .fieldAddr 30 (.tmp 23) 0, 0, "sheet.go:88", #[⟨1, .data⟩], none⟩ ?_ (.inl ⟨by rfl, ?_⟩) hS ?_
      rotate_left
      · (intro w hSw; (try dsimp only at hSw); go_simp; (try with_reducible rfl))
      try simp only [Act.put, sb, s0, sz]
      refine takeW 3 ⟨some 25, .load 22 (.tmp 24), 22, "sheet.go:88", #[⟨2, .data⟩], none⟩ ?_ (.inl ⟨by rfl, ?_⟩) hS ?_
      rotate_left
      · (intro w hSw; (try dsimp only at hSw); go_simp; (try with_reducible rfl))
      try simp only [Act.put, sb, s0, sz]
      refine wpAnyH_ready (rs := [4]) (by kernel_rfl) (by simp) ?_
      refine (AllReadyH.cons (o := { dst := some 26, op := Go.Op.call { callee := Go.Callee.value (Go.Operand.func 61), args := #[Go.Operand.tmp 4], argTypes := #[125] }, type := 9, pos := "sheet.go:88", after := #[], guard := none }) rfl (fun K hK => ?_) AllReadyH.nil)
      (go_simp; refine (String_any (hE.drew.front 1 rfl)).mono ?_; rintro e w3 ⟨v, rfl, rfl, hE3⟩)
      refine hK.out _ _ ⟨(atVm hE3 (by repeat (first | exact List.Mem.head _ | refine List.Mem.tail _ ?_)) (by simp [go_sem]) rfl), (atCell (hL.out _ (hE3.suf (by repeat (first | exact List.suffix_refl _ | refine List.IsSuffix.trans ?_ (List.suffix_cons _ _))))) (by simp [go_sem]))⟩ (fun hS => ?_)
      clear hK K
      try simp only [Act.put, sb, s0, sz]
      refine wpAnyH_ready (rs := [5]) (by kernel_rfl) (by simp) ?_
      refine (AllReadyH.cons (o := { dst := some 27, op := Go.Op.call { callee := Go.Callee.value (Go.Operand.func 59), args := #[Go.Operand.tmp 25, Go.Operand.tmp 26], argTypes := #[22, 9] }, type := 121, pos := "sheet.go:88", after := #[{ on := 3, ground := Go.Ground.data }, { on := 4, ground := Go.Ground.data }, { on := 4, ground := Go.Ground.chain }], guard := none }) rfl (fun K hK => ?_) AllReadyH.nil)
      (go_simp; refine (cut_any sq hs0 (allT xs) hE3).mono ?_; rintro e w4 ⟨v, rfl, bt, bs, rfl, hE4⟩)
      refine hK.out _ _ ⟨(atVm hE4 (by repeat (first | exact List.Mem.head _ | refine List.Mem.tail _ ?_)) (by simp [go_sem]) rfl), (atCell (hL.out _ (hE4.suf (by repeat (first | exact List.suffix_refl _ | refine List.IsSuffix.trans ?_ (List.suffix_cons _ _))))) (by simp [go_sem]))⟩ (fun hS => ?_)
      clear hK K
      try simp only [Act.put, sb, s0, sz]
      refine wpAnyH_done (by kernel_rfl) ?_ _
      clear hE hE3
      refine onlyN_n ?_
      go_wp2
      refine wpIn_wide.1 (wpIn_rangeSLB (gf := 103) rfl (enters_of Tryd.func103 (by kernel_rfl) rfl) (cut_iter sq (allT xs) (by omega) bt bs) (fun _ => rfl) (jnI b1 b2 b3 b4 b7 (.slice (some ⟨b, off, none⟩) xs.length c) xs l) (jnX b2 b3 xs l) ?e0
        (fun (x : Sht) (b8 : Nat) => { tmps := #[.slice (some ⟨b, off, none⟩) xs.length c, .pointer (some ⟨b1, 0, none⟩), .pointer (some ⟨b2, 0, none⟩), .pointer (some ⟨b3, 0, none⟩), .pointer (some ⟨b4, 0, none⟩), undef, u6, .pointer (some ⟨b7, 0, none⟩), .pointer (some ⟨b8, 0, none⟩), .slice (some ⟨b, off, none⟩) xs.length c, .int .i64 xs.length, .bool false, .slice (some ⟨b, off, none⟩) xs.length c, .int .i64 xs.length, .int .i64 xs.length, .bool false, u16, u17, u18, u19, u20, u21, .slice (some ⟨b, off, none⟩) xs.length c, .pointer (some ⟨b, off, none⟩), .pointer (some ⟨b, off, none⟩), .int .u64 sq, .string ⟨(allT xs).toArray⟩, .func (.func 103) #[] #[.pointer (some ⟨bt, 0, none⟩), .pointer (some ⟨bs, 0, none⟩)], shV x, undef, undef, undef, undef, undef, undef, undef, undef, undef, undef, undef, undef, undef, undef, undef, undef, undef, undef, undef], defers := [] })
        (fun (x : Sht) (b8 : Nat) => [pt b8 (.cells (shC x).toArray 30)]) ?assign ?body ?done ?stop)
      case e0 =>
        simp only [List.eraseIdx_cons_succ, List.eraseIdx_cons_zero] at hE4
        have h := Ent.pack (f := fun _ : ([] : List Sht) <+: xs => []) List.nil_prefix hE4
        exact (((((((h.front 3 rfl).front 7 rfl).front 5 rfl).front 6 rfl).front 7 rfl).front 7 rfl).front 7 rfl)
      case assign =>
        intro lp x W L KK hL hKK
        gi_wp2
        exact hL.alloc (.cells (shC x).toArray 30)
      case body =>
        intro lp pre x b8 W L hpre hW
        obtain ⟨hpx, hW'⟩ := (hW.front 6 rfl).unpack
        replace hW : Ent (pt b8 (.cells (shC x).toArray 30) :: pt b2 (.cells #[.string ⟨#[]⟩] 9) :: pt b3 (.cells #[.bool false] 4) :: pt b7 (.cells #[.int .i64 pre.length] 3) :: pt b1 (.cells #[.slice (some ⟨b, off, none⟩) xs.length c] 39) :: bld b4 (allT xs) :: (l ++ L)) W := hW'
        clear hW'
        have hED := hW.drew
        by_cases hi : pre.length < xs.length
        · have hLy := SL.hid (show ∀ W, Ent (l ++ L) W → ∀ j v, (shC xs[pre.length])[j]? = some v → W.cell? ((⟨b, off + pre.length * 3, none⟩ : Addr).add j) = some v from fun W hW => by
            obtain ⟨b', off', e, h⟩ := sht_at (hk W hW.left) hi
            cases e
            exact h)
          have hcm := fun w => eqSht xs[pre.length] x w
          have hps := SL.hid (pre_snoc hpx hi)
          have hle : decide (xs.length ≤ pre.length) = false := decide_eq_false (by omega)
          have hno0 : (xs[pre.length] == x) = false → joinB xs = false := fun h => by
            rw [HJ.out, beq_eq_false_iff_ne]
            intro e
            rw [e] at hpre
            obtain ⟨_, hx2⟩ := pre_at hpre
            rw [hx2, beq_self_eq_true] at h
            cases h
          have hno := SL.hid hno0
          clear hno0
          have f7 : (Instr.loadAt 3 (.pointer (some ⟨b7, 0, none⟩))).run Tryd.prog W.drew = .ok (.int .i64 pre.length) W.drew := atVm hED (by repeat (first | exact List.Mem.head _ | refine List.Mem.tail _ ?_)) (by simp [go_sem]) rfl
          have c7 : W.drew.cell? ⟨b7, 0, none⟩ = some (.int .i64 pre.length) := hED.cell 3 rfl 0
          have z7 : W.drew.frozen? ⟨b7, 0, none⟩ = false := hED.frozen 3 rfl 0
          have c2 : W.drew.cell? ⟨b2, 0, none⟩ = some (.string ⟨#[]⟩) := hED.cell 1 rfl 0
          have z2 : W.drew.frozen? ⟨b2, 0, none⟩ = false := hED.frozen 1 rfl 0
          have hSS := hED.setCell 1 rfl 0 (.string ⟨#[]⟩)
          have c3 : (W.drew.setCell ⟨b2, 0, none⟩ (.string ⟨#[]⟩)).cell? ⟨b3, 0, none⟩ = some (.bool false) := hSS.cell 2 rfl 0
          have z3 : (W.drew.setCell ⟨b2, 0, none⟩ (.string ⟨#[]⟩)).frozen? ⟨b3, 0, none⟩ = false := hSS.frozen 2 rfl 0
          have c3' : ((W.setCell ⟨b2, 0, none⟩ (.string ⟨#[]⟩)).drew).cell? ⟨b3, 0, none⟩ = some (.bool false) := c3
          have z3' : ((W.setCell ⟨b2, 0, none⟩ (.string ⟨#[]⟩)).drew).frozen? ⟨b3, 0, none⟩ = false := z3
          have Hn := SL.hid (show (pre ++ [x]).length = pre.length + 1 by simp)
          have Hpx := SL.hid hpre
          have Hyx := SL.hid (show ∀ y, (y == x) = true → y = x from fun y h => by simpa using h)
          clear hpre hpx
          generalize xs[pre.length] = y at *
          generalize hdd : (y == x) = d at *
          gi_wp2
          refine wpIn_region_held_drew (S := (fun w' => ((Instr.loadAt 3 (.pointer (some ⟨b7, 0, none⟩))).run Tryd.prog w' = .ok (.int .i64 pre.length) w') ∧ ((Instr.loadAt 39 (.pointer (some ⟨b1, 0, none⟩))).run Tryd.prog w' = .ok (.slice (some ⟨b, off, none⟩) xs.length c) w') ∧ ((Instr.loadAt 30 (.pointer (some ⟨b, off + pre.length * 3, none⟩))).run Tryd.prog w' = .ok (.agg #[.int .u64 y.seq, .bool y.last, .string ⟨y.text.toArray⟩]) w') ∧ ((Instr.loadAt 30 (.pointer (some ⟨b8, 0, none⟩))).run Tryd.prog w' = .ok (.agg #[.int .u64 x.seq, .bool x.last, .string ⟨x.text.toArray⟩]) w'))) rfl rfl rfl (by kernel_rfl) (by kernel_rfl) ⟨(atVm hED (by repeat (first | exact List.Mem.head _ | refine List.Mem.tail _ ?_)) (by simp [go_sem]) rfl), (atVm hED (by repeat (first | exact List.Mem.head _ | refine List.Mem.tail _ ?_)) (by simp [go_sem]) rfl), (atCells Tryd.isAgg30 Tryd.sizeOf30 (shC y) rfl (hLy.out _ (hED.suf (by repeat (first | exact List.suffix_refl _ | refine List.IsSuffix.trans ?_ (List.suffix_cons _ _)))))), (atWm hED (by repeat (first | exact List.Mem.head _ | refine List.Mem.tail _ ?_)) Tryd.isAgg30 Tryd.sizeOf30 rfl)⟩ (fun hS => ?_)
          refine takeW 0 ⟨some 29, .load 3 (.tmp 7), 3, "sheet.go:89", #[], none⟩ ?_ (.inl ⟨by rfl, ?_⟩) hS ?_
          rotate_left
          · (intro w hSw; (try dsimp only at hSw); go_simp; (try with_reducible rfl))
          try simp only [Act.put, sb, s0, sz]
          refine takeW 1 ⟨some 30, .load 39 (.tmp 1), 39, "sheet.go:89", #[], none⟩ ?_ (.inl ⟨by rfl, ?_⟩) hS ?_
          rotate_left
          · (intro w hSw; (try dsimp only at hSw); go_simp; (try with_reducible rfl))
          try simp only [Act.put, sb, s0, sz]
          refine takeW 2 ⟨some 31, .call { callee := .builtin .len, args := #[.tmp 30], argTypes := #[39] }, 3, "sheet.go:89", #[⟨1, .data⟩], none⟩ ?_ (.inl ⟨by rfl, ?_⟩) hS ?_
          rotate_left
          · (intro w hSw; (try dsimp only at hSw); go_simp; (try with_reducible rfl))
          try simp only [Act.put, sb, s0, sz]
          refine takeW 3 ⟨some 32, .binOp .geq 3 (.tmp 29) (.tmp 31) 3, 4, "sheet.go:89", #[⟨0, .data⟩, ⟨2, .data⟩], none⟩ ?_ (.inl ⟨by rfl, ?_⟩) hS ?_
          rotate_left
          · (intro w hSw; (try dsimp only at hSw); go_simp; (try with_reducible rfl))
          try simp only [Act.put, sb, s0, sz]
          refine takeW 4 ⟨some 33, .move (.tmp 32), 4, "sheet.go:89", #[⟨3, .data⟩], none⟩ ?_ (.inl ⟨by rfl, ?_⟩) hS ?_
          rotate_left
          · (intro w hSw; (try dsimp only at hSw); go_simp; (try with_reducible rfl))
          try simp only [Act.put, sb, s0, sz]
          refine takeW 5 ⟨some 34, .load 39 (.tmp 1), 39, "sheet.go:89", #[⟨4, .guard⟩], some (4, false)⟩ ?_ (.inl ⟨by rfl, ?_⟩) hS ?_
          rotate_left
          · (intro w hSw; (try dsimp only at hSw); go_simp; (try with_reducible rfl))
          try simp only [Act.put, sb, s0, sz]
          refine takeW 6 ⟨some 35, .load 3 (.tmp 7), 3, "sheet.go:89", #[⟨4, .guard⟩], some (4, false)⟩ ?_ (.inl ⟨by rfl, ?_⟩) hS ?_
          rotate_left
          · (intro w hSw; (try dsimp only at hSw); go_simp; (try with_reducible rfl))
          try simp only [Act.put, sb, s0, sz]
          refine takeW 7 ⟨some 36, .indexAddr 39 (.tmp 34) (.tmp 35), 0, "sheet.go:89", #[⟨5, .data⟩, ⟨6, .data⟩, ⟨4, .guard⟩], some (4, false)⟩ ?_ (.inl ⟨by rfl, ?_⟩) hS ?_
          rotate_left
          · (intro w hSw; (try dsimp only at hSw); go_simp; (try with_reducible rfl))
          try simp only [Act.put, sb, s0, sz]
          refine takeW 8 ⟨some 37, .load 30 (.tmp 36), 30, "sheet.go:89", #[⟨7, .data⟩, ⟨4, .guard⟩], some (4, false)⟩ ?_ (.inl ⟨by rfl, ?_⟩) hS ?_
          rotate_left
          · (intro w hSw; (try dsimp only at hSw); go_simp; (try with_reducible rfl))
          try simp only [Act.put, sb, s0, sz]
          refine takeW 9 ⟨some 38, .load 30 (.tmp 8), 30, "sheet.go:89", #[⟨4, .guard⟩], some (4, false)⟩ ?_ (.inl ⟨by rfl, ?_⟩) hS ?_
          rotate_left
          · (intro w hSw; (try dsimp only at hSw); go_simp; (try with_reducible rfl))
          try simp only [Act.put, sb, s0, sz]
          refine takeW 10 ⟨some 39, .binOp .neq 30 (.tmp 37) (.tmp 38) 30, 4, "sheet.go:89", #[⟨8, .data⟩, ⟨9, .data⟩, ⟨4, .guard⟩], some (4, false)⟩ ?_ (.inl ⟨by rfl, ?_⟩) hS ?_
          rotate_left
          · (intro w hSw; (try dsimp only at hSw); go_simp; (try with_reducible rfl))
          try simp only [Act.put, sb, s0, sz]
          refine takeW 11 ⟨some 40, .pick (.tmp 33) (.const (.bool true)) (.tmp 39), 4, "sheet.go:89", #[⟨4, .data⟩, ⟨10, .data⟩], none⟩ ?_ (.inl ⟨by rfl, ?_⟩) hS ?_
          rotate_left
          · (intro w hSw; (try dsimp only at hSw); go_simp; (try with_reducible rfl))
          try simp only [Act.put, sb, s0, sz]
          refine wpAnyH_done (by kernel_rfl) ?_ _
          refine onlyN_n ?_
          focus
            cases d with
            | true =>
              gi_wp2
              have hF := hED.setCell 3 rfl 0 (.int .i64 ((pre.length : Int) + 1))
              have hy := Hyx.out _ hdd
              subst hy
              have hG := Ent.pack (f := fun _ : pre ++ [y] <+: xs => []) hps.out hF.tail
              show Ent (jnI b1 b2 b3 b4 b7 (.slice (some ⟨b, off, none⟩) xs.length c) xs l (pre ++ [y]) ++ L) _
              rw [jnI, Hn.out]
              exact ((((hG.front 5 rfl).front 5 rfl).front 5 rfl).front 5 rfl).front 5 rfl
            | false =>
              gi_wp2
              have hF := (hSS.setCell 2 rfl 0 (.bool false)).tail
              have hG := Ent.pack (f := fun _ : Code.ret = .ret ∧ joinB xs = false => []) ⟨rfl, hno.out (by simp)⟩ ((hF.erase 2).erase 2 |>.erase 2)
              exact (hG.front 2 rfl).front 2 rfl
        · have hge : decide (xs.length ≤ pre.length) = true := decide_eq_true (by omega)
          have hno := SL.hid (show joinB xs = false by
            rw [HJ.out, beq_eq_false_iff_ne]
            intro e
            rw [e] at hpre
            obtain ⟨hx1, _⟩ := pre_at hpre
            omega)
          have c2 : W.drew.cell? ⟨b2, 0, none⟩ = some (.string ⟨#[]⟩) := hED.cell 1 rfl 0
          have z2 : W.drew.frozen? ⟨b2, 0, none⟩ = false := hED.frozen 1 rfl 0
          have hSS := hED.setCell 1 rfl 0 (.string ⟨#[]⟩)
          have c3 : (W.drew.setCell ⟨b2, 0, none⟩ (.string ⟨#[]⟩)).cell? ⟨b3, 0, none⟩ = some (.bool false) := hSS.cell 2 rfl 0
          have z3 : (W.drew.setCell ⟨b2, 0, none⟩ (.string ⟨#[]⟩)).frozen? ⟨b3, 0, none⟩ = false := hSS.frozen 2 rfl 0
          have c3' : ((W.setCell ⟨b2, 0, none⟩ (.string ⟨#[]⟩)).drew).cell? ⟨b3, 0, none⟩ = some (.bool false) := c3
          have z3' : ((W.setCell ⟨b2, 0, none⟩ (.string ⟨#[]⟩)).drew).frozen? ⟨b3, 0, none⟩ = false := z3
          gi_wp2
          refine wpIn_region_held_drew (S := (fun w' => ((Instr.loadAt 3 (.pointer (some ⟨b7, 0, none⟩))).run Tryd.prog w' = .ok (.int .i64 pre.length) w') ∧ ((Instr.loadAt 39 (.pointer (some ⟨b1, 0, none⟩))).run Tryd.prog w' = .ok (.slice (some ⟨b, off, none⟩) xs.length c) w'))) rfl rfl rfl (by kernel_rfl) (by kernel_rfl) ⟨(atVm hED (by repeat (first | exact List.Mem.head _ | refine List.Mem.tail _ ?_)) (by simp [go_sem]) rfl), (atVm hED (by repeat (first | exact List.Mem.head _ | refine List.Mem.tail _ ?_)) (by simp [go_sem]) rfl)⟩ (fun hS => ?_)
          refine takeW 0 ⟨some 29, .load 3 (.tmp 7), 3, "sheet.go:89", #[], none⟩ ?_ (.inl ⟨by rfl, ?_⟩) hS ?_
          rotate_left
          · (intro w hSw; (try dsimp only at hSw); go_simp; (try with_reducible rfl))
          try simp only [Act.put, sb, s0, sz]
          refine takeW 1 ⟨some 30, .load 39 (.tmp 1), 39, "sheet.go:89", #[], none⟩ ?_ (.inl ⟨by rfl, ?_⟩) hS ?_
          rotate_left
          · (intro w hSw; (try dsimp only at hSw); go_simp; (try with_reducible rfl))
          try simp only [Act.put, sb, s0, sz]
          refine takeW 2 ⟨some 31, .call { callee := .builtin .len, args := #[.tmp 30], argTypes := #[39] }, 3, "sheet.go:89", #[⟨1, .data⟩], none⟩ ?_ (.inl ⟨by rfl, ?_⟩) hS ?_
          rotate_left
          · (intro w hSw; (try dsimp only at hSw); go_simp; (try with_reducible rfl))
          try simp only [Act.put, sb, s0, sz]
          refine takeW 3 ⟨some 32, .binOp .geq 3 (.tmp 29) (.tmp 31) 3, 4, "sheet.go:89", #[⟨0, .data⟩, ⟨2, .data⟩], none⟩ ?_ (.inl ⟨by rfl, ?_⟩) hS ?_
          rotate_left
          · (intro w hSw; (try dsimp only at hSw); go_simp; (try with_reducible rfl))
          try simp only [Act.put, sb, s0, sz]
          refine takeW 4 ⟨some 33, .move (.tmp 32), 4, "sheet.go:89", #[⟨3, .data⟩], none⟩ ?_ (.inl ⟨by rfl, ?_⟩) hS ?_
          rotate_left
          · (intro w hSw; (try dsimp only at hSw); go_simp; (try with_reducible rfl))
          try simp only [Act.put, sb, s0, sz]
          refine takeW 5 ⟨some 34, .load 39 (.tmp 1), 39, "sheet.go:89", #[⟨4, .guard⟩], some (4, false)⟩ undef (.inr ⟨by rfl, rfl⟩) hS ?_; try simp only [Act.put, sb, s0, sz]
          refine takeW 6 ⟨some 35, .load 3 (.tmp 7), 3, "sheet.go:89", #[⟨4, .guard⟩], some (4, false)⟩ undef (.inr ⟨by rfl, rfl⟩) hS ?_; try simp only [Act.put, sb, s0, sz]
          refine takeW 7 ⟨some 36, .indexAddr 39 (.tmp 34) (.tmp 35), 0, "sheet.go:89", #[⟨5, .data⟩, ⟨6, .data⟩, ⟨4, .guard⟩], some (4, false)⟩ undef (.inr ⟨by rfl, rfl⟩) hS ?_; try simp only [Act.put, sb, s0, sz]
          refine takeW 8 ⟨some 37, .load 30 (.tmp 36), 30, "sheet.go:89", #[⟨7, .data⟩, ⟨4, .guard⟩], some (4, false)⟩ undef (.inr ⟨by rfl, rfl⟩) hS ?_; try simp only [Act.put, sb, s0, sz]
          refine takeW 9 ⟨some 38, .load 30 (.tmp 8), 30, "sheet.go:89", #[⟨4, .guard⟩], some (4, false)⟩ undef (.inr ⟨by rfl, rfl⟩) hS ?_; try simp only [Act.put, sb, s0, sz]
          refine takeW 10 ⟨some 39, .binOp .neq 30 (.tmp 37) (.tmp 38) 30, 4, "sheet.go:89", #[⟨8, .data⟩, ⟨9, .data⟩, ⟨4, .guard⟩], some (4, false)⟩ undef (.inr ⟨by rfl, rfl⟩) hS ?_; try simp only [Act.put, sb, s0, sz]
          refine takeW 11 ⟨some 40, .pick (.tmp 33) (.const (.bool true)) (.tmp 39), 4, "sheet.go:89", #[⟨4, .data⟩, ⟨10, .data⟩], none⟩ ?_ (.inl ⟨by rfl, ?_⟩) hS ?_
          rotate_left
          · (intro w hSw; (try dsimp only at hSw); go_simp; (try with_reducible rfl))
          try simp only [Act.put, sb, s0, sz]
          refine wpAnyH_done (by kernel_rfl) ?_ _
          refine onlyN_n ?_
          focus
            gi_wp2
            have hF := (hSS.setCell 2 rfl 0 (.bool false)).tail
            have hG := Ent.pack (f := fun _ : Code.ret = .ret ∧ joinB xs = false => []) ⟨rfl, hno.out⟩ ((hF.erase 2).erase 2 |>.erase 2)
            exact (hG.front 2 rfl).front 2 rfl
      case done =>
        intro D W hW
        obtain ⟨hpx, hW'⟩ := (hW.front 6 rfl).unpack
        replace hW : Ent (pt D (.deferred (some [])) :: pt b2 (.cells #[.string ⟨#[]⟩] 9) :: pt b3 (.cells #[.bool false] 4) :: pt b7 (.cells #[.int .i64 (cutL sq (allT xs)).length] 3) :: pt b1 (.cells #[.slice (some ⟨b, off, none⟩) xs.length c] 39) :: bld b4 (allT xs) :: l) W := hW'
        clear hW'
        by_cases hcl : (cutL sq (allT xs)).length = xs.length
        · have hj : joinB xs = true := by
            rw [HJ.out, beq_iff_eq]
            exact hpx.eq_of_length hcl
          have hjt := SL.hid (show joinT xs = allT xs by rw [joinT, hj, if_pos rfl])
          have Hj := SL.hid hj
          rw [hcl] at hW
          clear hj hpx hcl
          go_wp2_with (first
            | go_skip
            | ((with_reducible (show Go.wpList _ _ _ (Go.Oper.mk _ (.load _ _) _ _ _ _ :: _) _ _)); first | (refine wpl_load1 hW 3 rfl rfl rfl rfl (by simp [go_sem]) rfl ?_) | (refine wpl_load1 hW 4 rfl rfl rfl rfl (by simp [go_sem]) rfl ?_))
            | (go_at_call 61; refine (String_any (hW.front 5 rfl)).mono ?_; clear hW; rintro e w3 ⟨v, rfl, rfl, hW⟩; simp only [List.eraseIdx_cons_succ, List.eraseIdx_cons_zero] at hW)
            | ((with_reducible (show Go.wpList _ _ _ (Go.Oper.mk _ (.store 9 _ _) _ _ _ _ :: _) _ _)); refine wpl_st1 hW 2 rfl rfl rfl rfl rfl (by first | (simp [go_sem]; done) | (simp [go_sem]; rfl)) rfl rfl (by simp) ?_; clear hW; intro w hW; simp only [Act.eval, getD_lit, List.getD_cons_succ, List.getD_cons_zero, List.set_cons_zero, List.set_cons_succ] at hW)
            | ((with_reducible (show Go.wpList _ _ _ (Go.Oper.mk _ (.store 4 _ _) _ _ _ _ :: _) _ _)); refine wpl_st1 hW 3 rfl rfl rfl rfl rfl (by first | (simp [go_sem]; done) | (simp [go_sem]; rfl)) rfl rfl (by simp) ?_; clear hW; intro w hW; simp only [Act.eval, getD_lit, List.getD_cons_succ, List.getD_cons_zero, List.set_cons_zero, List.set_cons_succ] at hW))
          refine post_mark rfl (hW.front 1 rfl) (fun w' hw' => ⟨_, results_2v rfl rfl rfl (by simp [go_sem]) (by simp [go_sem]) (hw'.cell 1 rfl 0) (hw'.cell 2 rfl 0), _, rfl, ?_, hw'.tail.tail.tail.tail.tail⟩)
          rw [hjt.out, Hj.out]; rfl
        · have hj : joinB xs = false := by
            rw [HJ.out, beq_eq_false_iff_ne]
            intro e
            exact hcl (by rw [e])
          have hjt := SL.hid (show joinT xs = [] by rw [joinT, hj]; rfl)
          have Hj := SL.hid hj
          have hne : (((cutL sq (allT xs)).length : Int) != (xs.length : Int)) = true := by rw [bne_iff_ne]; omega
          generalize (cutL sq (allT xs)).length = n at *
          clear hj hpx hcl
          go_wp2_with (first
            | go_skip
            | ((with_reducible (show Go.wpList _ _ _ (Go.Oper.mk _ (.load _ _) _ _ _ _ :: _) _ _)); first | (refine wpl_load1 hW 3 rfl rfl rfl rfl (by simp [go_sem]) rfl ?_) | (refine wpl_load1 hW 4 rfl rfl rfl rfl (by simp [go_sem]) rfl ?_))
            | ((with_reducible (show Go.wpList _ _ _ (Go.Oper.mk _ (.store 9 _ _) _ _ _ _ :: _) _ _)); refine wpl_st1 hW 1 rfl rfl rfl rfl rfl (by first | (simp [go_sem]; done) | (simp [go_sem]; rfl)) rfl rfl (by simp) ?_; clear hW; intro w hW; simp only [Act.eval, getD_lit, List.getD_cons_succ, List.getD_cons_zero, List.set_cons_zero, List.set_cons_succ] at hW)
            | ((with_reducible (show Go.wpList _ _ _ (Go.Oper.mk _ (.store 4 _ _) _ _ _ _ :: _) _ _)); refine wpl_st1 hW 2 rfl rfl rfl rfl rfl (by first | (simp [go_sem]; done) | (simp [go_sem]; rfl)) rfl rfl (by simp) ?_; clear hW; intro w hW; simp only [Act.eval, getD_lit, List.getD_cons_succ, List.getD_cons_zero, List.set_cons_zero, List.set_cons_succ] at hW))
          refine post_mark rfl hW (fun w' hw' => ⟨_, results_2v rfl rfl rfl (by simp [go_sem]) (by simp [go_sem]) (hw'.cell 0 rfl 0) (hw'.cell 1 rfl 0), _, rfl, ?_, hw'.tail.tail.tail.tail.tail⟩)
          rw [hjt.out, Hj.out]; rfl
      case stop =>
        intro D c pre W hpre hW
        obtain ⟨⟨rfl, hbad⟩, hW'⟩ := (hW.front 3 rfl).unpack
        replace hW : Ent (pt D (.deferred (some [])) :: pt b2 (.cells #[.string ⟨#[]⟩] 9) :: pt b3 (.cells #[.bool false] 4) :: l) W := hW'
        have hjt := SL.hid (show joinT xs = [] by rw [joinT, hbad]; rfl)
        have Hj := SL.hid hbad
        clear hW' hbad hpre
        refine wpIn_wide.2 ?_
        go_wp2
        refine post_mark rfl hW (fun w' hw' => ⟨_, results_2v rfl rfl rfl (by simp [go_sem]) (by simp [go_sem]) (hw'.cell 0 rfl 0) (hw'.cell 1 rfl 0), _, rfl, ?_, hw'.tail.tail⟩)
        rw [hjt.out, Hj.out]; rfl
end Go.Proofs.YtdpfigkjkjjedaaDoor
namespace Go.Proofs.YtdpfigkjkjjedaaDoor
open Go.RowKit Go.SL

theorem wpl_makeB {ops : Array Oper} {rest : List Oper} {o : Oper} {a : Act} {Q : Exit → Act → World → Prop} {w : World} {l : List HProp} (hE : Ent l w) {x y : Operand} (ho : o.op = .makeSlice 26 x y) (hw : Region.wanted o (yielded ops a.tmps) = true) {kl kc : IntKind} (n : Nat) (hn : n ≤ 1000000)
    (hx : a.eval x = .int kl (n : Int)) (hy : a.eval y = .int kc (n : Int))
    (h : ∀ g w' (zs : List UInt8), zs = List.replicate n 0 → zs.length = n → Ent (rowB (some ⟨g, 0, none⟩) n zs :: l) w' → wpList Tryd.prog ops Q rest (a.put o.dst (.slice (some ⟨g, 0, none⟩) n n)) w') : wpList Tryd.prog ops Q (o :: rest) a w := by
  refine wpl_make hE ho hw Tryd.underlying26 (zs := [.int .u8 0]) (size := 1) (bytes := 1) (by kernel_rfl) rfl (by decide) n hx hy (by omega) (by omega) ?_
  intro g w' hE'
  refine h g w' (List.replicate n 0) rfl (List.length_replicate ..) ?_
  have e : (List.replicate n [Value.int IntKind.u8 0]).flatten = bvals (List.replicate n 0) := by
    induction n with
    | zero => rfl
    | succ n ih => simp [List.replicate_succ, bvals, bval] at ih ⊢
  rw [e] at hE'
  simp only [rowB, List.length_replicate]
  exact hE'

set_option maxRecDepth 100000 in
theorem Join_none {ao : Option Addr} {c : Nat} {l : List HProp} {w : World} (hE : Ent l w) :
    Calls Tryd.prog 19 #[.slice ao 0 c] w (Ret fun v w' => v = .tuple #[.string ⟨#[]⟩, .bool false] ∧ Ent l w') := by
  refine calls_of_marks Tryd.func19 rfl ?_
  simp only [Tryd.ntmps19, List.size_toArray, List.length_cons, List.length_nil, Nat.reduceAdd, Nat.reduceSub, Array.replicate_succ, Array.replicate_zero, List.push_toArray, List.append_toArray, List.nil_append, List.cons_append]
  go_wp2_with (first
    | go_skip
    | ((with_reducible (show Go.wpList _ _ _ (Go.Oper.mk _ (.box _ _) _ _ _ _ :: _) _ _)); refine wpl_box hE rfl rfl rfl ?_; clear hE; intro b1 w hE; simp only [Act.eval, Act.put, List.setIfInBounds_toArray, List.set_cons_zero, List.set_cons_succ, getD_lit, List.getD_cons_succ, List.getD_cons_zero, Value.cells] at hE)
    | ((with_reducible (show Go.wpList _ _ _ (Go.Oper.mk _ (.alloc 9) _ _ _ _ :: _) _ _)); ((with_reducible (show Go.wpList _ _ _ (Go.Oper.mk _ (.alloc _) _ _ _ _ :: _) _ _)); refine wpl_alloc hE rfl rfl (by simp [go_sem]; rfl) ?_; clear hE; intro b2 w hE; simp only [Act.eval, Act.put, List.setIfInBounds_toArray, List.set_cons_zero, List.set_cons_succ, getD_lit, List.getD_cons_succ, List.getD_cons_zero, Value.cells] at hE))
    | ((with_reducible (show Go.wpList _ _ _ (Go.Oper.mk _ (.alloc 4) _ _ _ _ :: _) _ _)); ((with_reducible (show Go.wpList _ _ _ (Go.Oper.mk _ (.alloc _) _ _ _ _ :: _) _ _)); refine wpl_alloc hE rfl rfl (by simp [go_sem]; rfl) ?_; clear hE; intro b3 w hE; simp only [Act.eval, Act.put, List.setIfInBounds_toArray, List.set_cons_zero, List.set_cons_succ, getD_lit, List.getD_cons_succ, List.getD_cons_zero, Value.cells] at hE))
    | ((with_reducible (show Go.wpList _ _ _ (Go.Oper.mk _ (.store 9 _ _) _ _ _ _ :: _) _ _)); ((with_reducible (show Go.wpList _ _ _ (Go.Oper.mk _ (.store _ _ _) _ _ _ _ :: _) _ _)); (first | (refine wpl_st1 hE 0 rfl rfl rfl rfl rfl (by first | (simp [go_sem]; done) | (simp [go_sem]; rfl)) rfl rfl (by simp) ?_) | (refine wpl_st1 hE 1 rfl rfl rfl rfl rfl (by first | (simp [go_sem]; done) | (simp [go_sem]; rfl)) rfl rfl (by simp) ?_) | (refine wpl_st1 hE 2 rfl rfl rfl rfl rfl (by first | (simp [go_sem]; done) | (simp [go_sem]; rfl)) rfl rfl (by simp) ?_) | (refine wpl_st1 hE 3 rfl rfl rfl rfl rfl (by first | (simp [go_sem]; done) | (simp [go_sem]; rfl)) rfl rfl (by simp) ?_) | (refine wpl_st1 hE 4 rfl rfl rfl rfl rfl (by first | (simp [go_sem]; done) | (simp [go_sem]; rfl)) rfl rfl (by simp) ?_) | (refine wpl_st1 hE 5 rfl rfl rfl rfl rfl (by first | (simp [go_sem]; done) | (simp [go_sem]; rfl)) rfl rfl (by simp) ?_) | (refine wpl_st1 hE 6 rfl rfl rfl rfl rfl (by first | (simp [go_sem]; done) | (simp [go_sem]; rfl)) rfl rfl (by simp) ?_) | (refine wpl_st1 hE 7 rfl rfl rfl rfl rfl (by first | (simp [go_sem]; done) | (simp [go_sem]; rfl)) rfl rfl (by simp) ?_)); clear hE; intro w hE; simp only [Act.eval, getD_lit, List.getD_cons_succ, List.getD_cons_zero, List.set_cons_zero, List.set_cons_succ] at hE))
    | ((with_reducible (show Go.wpList _ _ _ (Go.Oper.mk _ (.store 4 _ _) _ _ _ _ :: _) _ _)); ((with_reducible (show Go.wpList _ _ _ (Go.Oper.mk _ (.store _ _ _) _ _ _ _ :: _) _ _)); (first | (refine wpl_st1 hE 0 rfl rfl rfl rfl rfl (by first | (simp [go_sem]; done) | (simp [go_sem]; rfl)) rfl rfl (by simp) ?_) | (refine wpl_st1 hE 1 rfl rfl rfl rfl rfl (by first | (simp [go_sem]; done) | (simp [go_sem]; rfl)) rfl rfl (by simp) ?_) | (refine wpl_st1 hE 2 rfl rfl rfl rfl rfl (by first | (simp [go_sem]; done) | (simp [go_sem]; rfl)) rfl rfl (by simp) ?_) | (refine wpl_st1 hE 3 rfl rfl rfl rfl rfl (by first | (simp [go_sem]; done) | (simp [go_sem]; rfl)) rfl rfl (by simp) ?_) | (refine wpl_st1 hE 4 rfl rfl rfl rfl rfl (by first | (simp [go_sem]; done) | (simp [go_sem]; rfl)) rfl rfl (by simp) ?_) | (refine wpl_st1 hE 5 rfl rfl rfl rfl rfl (by first | (simp [go_sem]; done) | (simp [go_sem]; rfl)) rfl rfl (by simp) ?_) | (refine wpl_st1 hE 6 rfl rfl rfl rfl rfl (by first | (simp [go_sem]; done) | (simp [go_sem]; rfl)) rfl rfl (by simp) ?_) | (refine wpl_st1 hE 7 rfl rfl rfl rfl rfl (by first | (simp [go_sem]; done) | (simp [go_sem]; rfl)) rfl rfl (by simp) ?_)); clear hE; intro w hE; simp only [Act.eval, getD_lit, List.getD_cons_succ, List.getD_cons_zero, List.set_cons_zero, List.set_cons_succ] at hE))
    | ((with_reducible (show Go.wpList _ _ _ (Go.Oper.mk _ (.load _ _) _ _ _ _ :: _) _ _)); (first | (refine wpl_load1 hE 0 rfl rfl rfl rfl (by simp [go_sem]) rfl ?_) | (refine wpl_load1 hE 1 rfl rfl rfl rfl (by simp [go_sem]) rfl ?_) | (refine wpl_load1 hE 2 rfl rfl rfl rfl (by simp [go_sem]) rfl ?_) | (refine wpl_load1 hE 3 rfl rfl rfl rfl (by simp [go_sem]) rfl ?_) | (refine wpl_load1 hE 4 rfl rfl rfl rfl (by simp [go_sem]) rfl ?_) | (refine wpl_load1 hE 5 rfl rfl rfl rfl (by simp [go_sem]) rfl ?_) | (refine wpl_load1 hE 6 rfl rfl rfl rfl (by simp [go_sem]) rfl ?_) | (refine wpl_load1 hE 7 rfl rfl rfl rfl (by simp [go_sem]) rfl ?_))))
  refine post_none rfl (results_2v rfl rfl rfl (by simp [go_sem]) (by simp [go_sem]) (hE.cell 1 rfl 0) (hE.cell 0 rfl 0)) ⟨_, rfl, rfl, hE.tail.tail.tail⟩
theorem Join_any {xs : List Sht} (hn : xs.length ≤ 1000) (hx : ∀ x ∈ xs, x.text.length ≤ 1000) (hsq : ∀ x ∈ xs, x.seq < 18446744073709551616) {ao : Option Addr} {c : Nat} {l : List HProp} {w : World} (hk : Knows l (reads (.slice ao xs.length c) xs.length (xs.flatMap shC))) (hE : Ent l w) :
    Calls Tryd.prog 19 #[.slice ao xs.length c] w (Ret fun v w' => v = .tuple #[.string ⟨(joinT xs).toArray⟩, .bool (joinB xs)] ∧ Ent l w') := by
  cases xs with
  | nil => exact Join_none hE
  | cons x xs => exact Join_some (by simp) hn hx hsq hk hE

theorem Join_row {xs : List Sht} (hn : xs.length ≤ 1000) (hx : ∀ x ∈ xs, x.text.length ≤ 1000) (hsq : ∀ x ∈ xs, x.seq < 18446744073709551616) {ao : Option Addr} {c : Nat} {l : List HProp} {w : World} (hE : Ent l w) (i : Nat) (hi : l[i]? = some (rowSh ao c xs)) :
    Calls Tryd.prog 19 #[.slice ao xs.length c] w (Ret fun v w' => v = .tuple #[.string ⟨(joinT xs).toArray⟩, .bool (joinB xs)] ∧ Ent l w') := Join_any hn hx hsq (fun _ h => reads_row h i hi) hE
/-- .. of all but the first -/
theorem Join_from1 {s0 s1 : Sht} (hx : s1.text.length ≤ 1000) (hsq : s1.seq < 18446744073709551616) {b off : Nat} {c : Nat} {l : List HProp} {w : World} (hE : Ent l w) (i : Nat) (hi : l[i]? = some (rowSh (some ⟨b, off, none⟩) c [s0, s1])) (hc : 2 ≤ c) :
    Calls Tryd.prog 19 #[.slice (some ⟨b, off + 3, none⟩) 1 (c - 1)] w (Ret fun v w' => v = .tuple #[.string ⟨(joinT [s1]).toArray⟩, .bool (joinB [s1])] ∧ Ent l w') :=
  Join_any (xs := [s1]) (by simp) (by simpa using hx) (by simpa using hsq) (fun w h => by
    have hr := reads_row h i hi
    obtain ⟨ao, c', e, _, h2⟩ := hr
    cases e
    refine ⟨some ⟨b, off + 3, none⟩, _, rfl, fun h => (by cases h), fun ad had j u hu => ?_⟩
    cases had
    have := h2 _ rfl (3 + j) u (by
      simp only [List.flatMap_cons, List.flatMap_nil, List.append_nil] at hu ⊢
      rw [List.getElem?_append_right (by rw [shC_len]; omega), shC_len, show 3 + j - 3 = j by omega]
      exact hu)
    rw [Addr.add_lit] at this ⊢
    rw [show off + 3 + j = off + (3 + j) by omega]
    exact this) hE
theorem sht_two {w : World} {ao : Option Addr} {c : Nat} {s0 s1 : Sht} (hr : reads (.slice ao [s0, s1].length c) [s0, s1].length ([s0, s1].flatMap shC) w) : ∃ b off, ao = some ⟨b, off, none⟩ ∧ w.cell? ⟨b, off + 1, none⟩ = some (.bool s0.last) ∧ w.cell? ⟨b, off + 2, none⟩ = some (.string ⟨s0.text.toArray⟩) ∧ ∀ j v, (shC s1)[j]? = some v → w.cell? ((⟨b, off + 3, none⟩ : Addr).add j) = some v := by
  obtain ⟨b, off, rfl, h0⟩ := sht_at hr (k := 0) (by simp)
  obtain ⟨b', off', e, h1⟩ := sht_at hr (k := 1) (by simp)
  cases e
  refine ⟨b, off, rfl, ?_, ?_, h1⟩
  · have := h0 1 _ rfl
    simpa [Addr.add_lit] using this
  · have := h0 2 _ rfl
    simpa [Addr.add_lit] using this
theorem row_capG {e : TypeId} {size n c : Nat} {ao : Option Addr} {xs : List Value} {l : List HProp} {w : World} (hE : Ent l w) (i : Nat) (hi : l[i]? = some (row e size (.slice ao n c) n xs)) : n ≤ c := by
  rcases (hE.owns i hi).2 with ⟨h, h0⟩ | ⟨g, cap, cur, h, _, _, hn, _⟩
  · omega
  · cases h; exact hn
theorem load_1 {s0 s1 : Sht} {b off c : Nat} {l : List HProp} {w : World} (hE : Ent l w) (i : Nat) (hi : l[i]? = some (rowSh (some ⟨b, off, none⟩) c [s0, s1])) :
    (Instr.loadAt 30 (.pointer (some ⟨b, off + 3, none⟩))).run Tryd.prog w = .ok (.agg (shC s1).toArray) w := by
  obtain ⟨b', off', e, _, _, h⟩ := sht_two (reads_row hE i hi)
  cases e
  exact atCells Tryd.isAgg30 Tryd.sizeOf30 (shC s1) rfl h
theorem zeros_known : ∃ (zs z0 : List UInt8), zs = List.replicate 498 0 ∧ zs.length = 498 ∧ z0.length = 497 ∧ cutL 7 zs = [⟨7, false, z0⟩, ⟨8, true, [0]⟩] := by
  refine ⟨List.replicate 498 0, List.replicate 497 0, rfl, List.length_replicate .., List.length_replicate .., ?_⟩
  have hl : (List.replicate 498 (0 : UInt8)).length = 498 := List.length_replicate ..
  have hn : needN 498 = 2 := by decide
  have r2 : List.range 2 = [0, 1] := by decide
  rw [cutL, hl, hn, r2]
  have a : pieceAt 7 (List.replicate 498 0) 0 = ⟨7, false, List.replicate 497 0⟩ := by
    rw [pieceAt, hl, hn, List.drop_replicate, List.take_replicate]
    rfl
  have b : pieceAt 7 (List.replicate 498 0) 1 = ⟨8, true, [0]⟩ := by
    rw [pieceAt, hl, hn, List.drop_replicate, List.take_replicate]
    rfl
  simp only [List.map_cons, List.map_nil, a, b]
theorem zeros_none {z : List UInt8} (h : z = List.replicate 512 0) : resSE z = 3 := by
  have h1 : rdOk z = false := by
    rw [(rd_dc z).1, dcOk]
    have : z.getD 8 0 = 0 := by
      rw [h, List.getD_eq_getElem?_getD, List.getElem?_replicate]; rfl
    rw [this]
    have e1 : ((0 : UInt8) == 1) = false := by decide
    have e2 : ((0 : UInt8) == 2) = false := by decide
    rw [e1, e2]
    simp
  rw [resSE, h1]; rfl
theorem join_one : joinB [⟨8, true, [0]⟩] = true := by decide
theorem known_sheet : resS (shP 8 true [0]) = ⟨8, true, [0]⟩ ∧ resSE (shP 8 true [0]) = 0 := by
  have h := rdOk_shP (seq := 8) (last := true) (t := [0]) (by decide) (by decide)
  have h2 := (rd_shP (seq := 8) (last := true) (t := [0]) (by decide) (by decide)).1
  rw [resS, resSE, h, if_pos rfl, if_pos rfl, h2]
  exact ⟨rfl, rfl⟩

set_option maxRecDepth 100000 in
set_option maxHeartbeats 4000000 in
attribute [-go_sem] Instr.loadAt Go.run_equalIn_agg in
theorem wakes05_any {l : List HProp} {w : World} (ht : Knows l Table) (hE : Ent l w) :
    Calls Tryd.prog 10 #[] w (Ret fun v w' => v = .bool true ∧ Ent l w') := by
  obtain ⟨zs, z0, hzs, hzl, hz0, hcut⟩ := zeros_known
  have Hzs := SL.hid hzs
  have Hzl := SL.hid hzl
  have Hcut := SL.hid hcut
  have Hz0 := SL.hid hz0
  have hj := join_cut (seq := 7) (t := zs) (by decide)
  rw [hcut] at hj
  have HJ := SL.hid hj
  have Hk := SL.hid known_sheet
  have Tok := SL.hid True.intro
  have hz0i : ((z0.length : Nat) : Int) = 497 := by omega
  have hcm : ∀ w, (Op.equalIn 10000 30 (.agg #[.int .u64 8, .bool true, .string ⟨#[0]⟩]) (.agg #[.int .u64 8, .bool true, .string ⟨#[0]⟩])).run Tryd.prog w = .ok true w := fun w => by
    have := eqSht ⟨8, true, [0]⟩ ⟨8, true, [0]⟩ w
    rw [beq_self_eq_true] at this
    exact this
  clear hzs hzl hcut hz0 hj
  go_enter Tryd.func10, Tryd.ntmps10
  go_wp2_with (first
    | go_skip
    | ((with_reducible (show Go.wpList _ _ _ (Go.Oper.mk _ (.makeSlice _ _ _) _ _ _ _ :: _) _ _)); refine wpl_makeB hE rfl rfl 498 (by omega) rfl rfl ?_; clear hE; intro g w9 ys hys hyl hE; (have e : ys = zs := by rw [hys, Hzs.out]); subst e; clear hys hyl)
    | ((with_reducible (show Go.wpList _ _ _ (Go.Oper.mk _ (.convert _ _ _) _ _ _ _ :: _) _ _)); refine wpl_bytesStr (bs := ys) rfl rfl rfl Tryd.underlying26 Tryd.underlying5 Tryd.underlying9 (n := 498) (by have h := reads_row hE 0 rfl; rw [Hzl.out] at h; exact h) Hzl.out.symm ?_)
    | (go_at_call 16; refine (Cut_any (seq := 7) (by decide) (by have := Hzl.out; omega) hE.tail).mono ?_; clear hE; rintro e w2 ⟨v, rfl, ao, c, rfl, hE⟩; rw [Hcut.out] at hE ⊢; have hcap := row_capG hE 0 rfl; simp only [List.length_cons, List.length_nil] at hcap; obtain ⟨b, off, rfl, k01, k02, k1⟩ := sht_two (reads_row hE 0 rfl))
    | ((with_reducible (show Go.wpList _ _ _ (Go.Oper.mk _ (.load 30 _) _ _ _ _ :: _) _ _)); refine wpl_loadC rfl rfl rfl Tryd.isAgg30 Tryd.sizeOf30 [.int .u64 8, .bool true, .string ⟨#[0]⟩] rfl k1 ?_)
    | ((with_reducible (show Go.wpList _ _ _ (Go.Oper.mk _ (.load 9 _) _ _ _ _ :: _) _ _)); (have k02' := atCell (P := Tryd.prog) (t := 9) k02 (by simp [go_sem])); refine wpl_run rfl (w' := w2) (v := .string ⟨z0.toArray⟩) (by simp only [execOp, Act.eval]; simp [k02']) ?_)
    | ((with_reducible (show Go.wpList _ _ _ (Go.Oper.mk _ (.load 4 _) _ _ _ _ :: _) _ _)); (have k01' := atCell (P := Tryd.prog) (t := 4) k01 (by simp [go_sem])); refine wpl_run rfl (w' := w2) (v := .bool false) (by simp only [execOp, Act.eval]; simp [k01']) ?_)
    | (go_at_call 11; refine (sPut_ok (seq := 8) true (by decide) (t := [0]) (by decide) ht.cons hE).mono ?_; clear hE; rintro e w3 ⟨v, rfl, ap, cp, rfl, hE⟩)
    | (go_at_call 14; (have H := sTake_any (b := shP 8 true [0]) (ao := ap) (c := cp) (by rw [shP_len (by decide)]; omega) ht.cons.cons (fun _ h => reads_row h 0 rfl) hE); rw [Hk.out.1, Hk.out.2] at H; clear Hk; refine H.mono ?_; clear H hE; rintro e w4 ⟨v, rfl, rfl, hE⟩)
    | ((with_reducible (show Go.wpList _ _ _ (Go.Oper.mk _ (.alloc _) _ _ _ _ :: _) _ _)); clear Tok; refine wpl_allocN hE rfl rfl (n := 3) zs_sht ?_; clear hE; intro b4 cs w5 hq hE)
    | ((with_reducible (show Go.wpList _ _ _ (Go.Oper.mk _ (.alloc _) _ _ _ _ :: _) _ _)); refine wpl_allocN hE rfl rfl (n := 3) zs_sht ?_; clear hE; intro b10 cs w5 hq hE)
    | ((with_reducible (show Go.wpList _ _ _ (Go.Oper.mk _ (.store 30 _ _) _ _ _ _ :: _) _ _)); refine wpl_storeN hE 0 rfl rfl rfl rfl (xs := [.int .u64 z1, .bool z2, .string ⟨z3.toArray⟩]) rfl Tryd.sizeOf30 rfl (by simp [Value.oneCell']) hq ?_; clear hE; intro w6 hE; simp only [List.set_cons_zero] at hE)
    | ((with_reducible (show Go.wpList _ _ _ (Go.Oper.mk _ (.store 30 _ _) _ _ _ _ :: _) _ _)); refine wpl_storeN hE 0 rfl rfl rfl rfl (xs := [.int .u64 8, .bool true, .string ⟨#[0]⟩]) rfl Tryd.sizeOf30 rfl (by simp [Value.oneCell']) hq ?_; clear hE; intro w6 hE; simp only [List.set_cons_zero] at hE)
    | (go_at_call 19; (have H := Join_row (xs := [⟨7, false, z0⟩, ⟨8, true, [0]⟩]) (by simp) (by simp [Hz0.out]) (by simp) hE 2 rfl); rw [HJ.out.1, HJ.out.2] at H; clear HJ; refine H.mono ?_; clear H hE; rintro e w7 ⟨v, rfl, rfl, hE⟩)
    | (go_at_call 19; (have H := Join_from1 (s0 := ⟨7, false, z0⟩) (s1 := ⟨8, true, [0]⟩) (by simp) (by simp) hE 2 rfl hcap); rw [join_one] at H; refine H.mono ?_; clear H hE; rintro e w8 ⟨v, rfl, rfl, hE⟩)
    | ((with_reducible (show Go.wpList _ _ _ (Go.Oper.mk _ (.makeSlice _ _ _) _ _ _ _ :: _) _ _)); refine wpl_makeB hE rfl rfl 512 (by omega) rfl rfl ?_; clear hE; intro g2 wa ys2 hys2 hyl2 hE)
    | (go_at_call 14; (have H := sTake_any (b := ys2) (by omega) ht.cons.cons.cons.cons (fun _ h => by have h := reads_row h 0 rfl; exact h) hE); rw [zeros_none hys2, hyl2] at H; generalize resS ys2 = sz at H; obtain ⟨z1, z2, z3⟩ := sz; simp only [shV] at H; refine H.mono ?_; clear H hE; rintro e wb ⟨v, rfl, rfl, hE⟩))
  have hyl9 : ys.length = 498 := Hzl.out
  refine wp_region_held_drew (S := (fun w' => ((Instr.loadAt 30 (.pointer (some ⟨b4, 0, none⟩))).run Tryd.prog w' = .ok (.agg #[.int .u64 8, .bool true, .string ⟨#[0]⟩]) w') ∧ ((Instr.loadAt 30 (.pointer (some ⟨b, off + 3, none⟩))).run Tryd.prog w' = .ok (.agg #[.int .u64 8, .bool true, .string ⟨#[0]⟩]) w'))) (by kernel_rfl) ⟨(atWm hE.drew (by repeat (first | exact List.Mem.head _ | refine List.Mem.tail _ ?_)) Tryd.isAgg30 Tryd.sizeOf30 rfl), (load_1 hE.drew 4 rfl)⟩ (fun hS => ?_)
  refine takeW 0 ⟨some 67, .move (.tmp 3), 27, "law.go:24", #[], none⟩ ?_ (.inl ⟨by rfl, ?_⟩) hS ?_
  rotate_left
  · (intro w hSw; (try dsimp only at hSw); go_simp; (try with_reducible rfl))
  try simp only [Act.put, sb, s0, sz]
  refine takeW 1 ⟨some 68, .binOp .eql 27 (.tmp 67) (.const (.int .i64 0)) 27, 4, "law.go:24", #[⟨0, .data⟩], none⟩ ?_ (.inl ⟨by rfl, ?_⟩) hS ?_
  rotate_left
  · (intro w hSw; (try dsimp only at hSw); go_simp; (try with_reducible rfl))
  try simp only [Act.put, sb, s0, sz]
  refine takeW 2 ⟨some 69, .move (.tmp 68), 4, "law.go:24", #[⟨1, .data⟩], none⟩ ?_ (.inl ⟨by rfl, ?_⟩) hS ?_
  rotate_left
  · (intro w hSw; (try dsimp only at hSw); go_simp; (try with_reducible rfl))
  try simp only [Act.put, sb, s0, sz]
  refine takeW 3 ⟨some 70, .move (.tmp 5), 27, "law.go:24", #[⟨2, .guard⟩], some (2, true)⟩ ?_ (.inl ⟨by rfl, ?_⟩) hS ?_
  rotate_left
  · (intro w hSw; (try dsimp only at hSw); go_simp; (try with_reducible rfl))
  try simp only [Act.put, sb, s0, sz]
  refine takeW 4 ⟨some 71, .binOp .eql 27 (.tmp 70) (.const (.int .i64 0)) 27, 4, "law.go:24", #[⟨3, .data⟩, ⟨2, .guard⟩], some (2, true)⟩ ?_ (.inl ⟨by rfl, ?_⟩) hS ?_
  rotate_left
  · (intro w hSw; (try dsimp only at hSw); go_simp; (try with_reducible rfl))
  try simp only [Act.put, sb, s0, sz]
  refine takeW 5 ⟨some 72, .pick (.tmp 69) (.tmp 71) (.const (.bool false)), 4, "law.go:24", #[⟨2, .data⟩, ⟨4, .data⟩], none⟩ ?_ (.inl ⟨by rfl, ?_⟩) hS ?_
  rotate_left
  · (intro w hSw; (try dsimp only at hSw); go_simp; (try with_reducible rfl))
  try simp only [Act.put, sb, s0, sz]
  refine takeW 6 ⟨some 73, .move (.tmp 72), 4, "law.go:24", #[⟨5, .data⟩, ⟨2, .chain⟩], none⟩ ?_ (.inl ⟨by rfl, ?_⟩) hS ?_
  rotate_left
  · (intro w hSw; (try dsimp only at hSw); go_simp; (try with_reducible rfl))
  try simp only [Act.put, sb, s0, sz]
  refine takeW 7 ⟨some 74, .load 30 (.tmp 4), 30, "law.go:24", #[⟨6, .guard⟩], some (6, true)⟩ ?_ (.inl ⟨by rfl, ?_⟩) hS ?_
  rotate_left
  · (intro w hSw; (try dsimp only at hSw); go_simp; (try with_reducible rfl))
  try simp only [Act.put, sb, s0, sz]
  refine takeW 8 ⟨some 75, .move (.tmp 1), 39, "law.go:24", #[⟨6, .guard⟩], some (6, true)⟩ ?_ (.inl ⟨by rfl, ?_⟩) hS ?_
  rotate_left
  · (intro w hSw; (try dsimp only at hSw); go_simp; (try with_reducible rfl))
  try simp only [Act.put, sb, s0, sz]
  refine takeW 9 ⟨some 76, .indexAddr 39 (.tmp 75) (.const (.int .i64 1)), 0, "law.go:24", #[⟨8, .data⟩, ⟨6, .guard⟩], some (6, true)⟩ ?_ (.inl ⟨by rfl, ?_⟩) hS ?_
  rotate_left
  · (intro w hSw; (try dsimp only at hSw); go_simp; (try with_reducible rfl))
  try simp only [Act.put, sb, s0, sz]
  refine takeW 10 ⟨some 77, .load 30 (.tmp 76), 30, "law.go:24", #[⟨9, .data⟩, ⟨6, .guard⟩], some (6, true)⟩ ?_ (.inl ⟨by rfl, ?_⟩) hS ?_
  rotate_left
  · (intro w hSw; (try dsimp only at hSw); go_simp; (try with_reducible rfl))
  try simp only [Act.put, sb, s0, sz]
  refine takeW 11 ⟨some 78, .binOp .eql 30 (.tmp 74) (.tmp 77) 30, 4, "law.go:24", #[⟨7, .data⟩, ⟨10, .data⟩, ⟨6, .guard⟩], some (6, true)⟩ ?_ (.inl ⟨by rfl, ?_⟩) hS ?_
  rotate_left
  · (intro w hSw; (try dsimp only at hSw); go_simp; (try with_reducible rfl))
  try simp only [Act.put, sb, s0, sz]
  refine takeW 12 ⟨some 79, .pick (.tmp 73) (.tmp 78) (.const (.bool false)), 4, "law.go:24", #[⟨6, .data⟩, ⟨11, .data⟩], none⟩ ?_ (.inl ⟨by rfl, ?_⟩) hS ?_
  rotate_left
  · (intro w hSw; (try dsimp only at hSw); go_simp; (try with_reducible rfl))
  try simp only [Act.put, sb, s0, sz]
  refine takeW 13 ⟨some 80, .move (.tmp 79), 4, "law.go:24", #[⟨12, .data⟩, ⟨6, .chain⟩], none⟩ ?_ (.inl ⟨by rfl, ?_⟩) hS ?_
  rotate_left
  · (intro w hSw; (try dsimp only at hSw); go_simp; (try with_reducible rfl))
  try simp only [Act.put, sb, s0, sz]
  refine takeW 14 ⟨some 81, .move (.tmp 7), 4, "law.go:24", #[⟨13, .guard⟩], some (13, true)⟩ ?_ (.inl ⟨by rfl, ?_⟩) hS ?_
  rotate_left
  · (intro w hSw; (try dsimp only at hSw); go_simp; (try with_reducible rfl))
  try simp only [Act.put, sb, s0, sz]
  refine takeW 15 ⟨some 82, .pick (.tmp 80) (.tmp 81) (.const (.bool false)), 4, "law.go:24", #[⟨13, .data⟩, ⟨14, .data⟩], none⟩ ?_ (.inl ⟨by rfl, ?_⟩) hS ?_
  rotate_left
  · (intro w hSw; (try dsimp only at hSw); go_simp; (try with_reducible rfl))
  try simp only [Act.put, sb, s0, sz]
  refine takeW 16 ⟨some 83, .move (.tmp 82), 4, "law.go:24", #[⟨15, .data⟩, ⟨13, .chain⟩], none⟩ ?_ (.inl ⟨by rfl, ?_⟩) hS ?_
  rotate_left
  · (intro w hSw; (try dsimp only at hSw); go_simp; (try with_reducible rfl))
  try simp only [Act.put, sb, s0, sz]
  refine takeW 17 ⟨some 84, .move (.tmp 6), 9, "law.go:24", #[⟨16, .guard⟩], some (16, true)⟩ ?_ (.inl ⟨by rfl, ?_⟩) hS ?_
  rotate_left
  · (intro w hSw; (try dsimp only at hSw); go_simp; (try with_reducible rfl))
  try simp only [Act.put, sb, s0, sz]
  refine takeW 18 ⟨some 85, .call { callee := .builtin .len, args := #[.tmp 84], argTypes := #[9] }, 3, "law.go:24", #[⟨17, .data⟩, ⟨16, .guard⟩], some (16, true)⟩ ?_ (.inl ⟨by rfl, ?_⟩) hS ?_
  rotate_left
  · (intro w hSw; (try dsimp only at hSw); go_simp; (try with_reducible rfl))
  try simp only [Act.put, sb, s0, sz]
  refine takeW 19 ⟨some 86, .binOp .eql 3 (.tmp 85) (.const (.int .i64 498)) 3, 4, "law.go:24", #[⟨18, .data⟩, ⟨16, .guard⟩], some (16, true)⟩ ?_ (.inl ⟨by rfl, ?_⟩) hS ?_
  rotate_left
  · (intro w hSw; (try dsimp only at hSw); go_simp; (try with_reducible rfl))
  try simp only [Act.put, sb, s0, sz]
  refine takeW 20 ⟨some 87, .pick (.tmp 83) (.tmp 86) (.const (.bool false)), 4, "law.go:24", #[⟨16, .data⟩, ⟨19, .data⟩], none⟩ ?_ (.inl ⟨by rfl, ?_⟩) hS ?_
  rotate_left
  · (intro w hSw; (try dsimp only at hSw); go_simp; (try with_reducible rfl))
  try simp only [Act.put, sb, s0, sz]
  refine takeW 21 ⟨some 88, .move (.tmp 87), 4, "law.go:24", #[⟨20, .data⟩, ⟨16, .chain⟩], none⟩ ?_ (.inl ⟨by rfl, ?_⟩) hS ?_
  rotate_left
  · (intro w hSw; (try dsimp only at hSw); go_simp; (try with_reducible rfl))
  try simp only [Act.put, sb, s0, sz]
  refine takeW 22 ⟨some 89, .move (.tmp 9), 4, "law.go:24", #[⟨21, .guard⟩], some (21, true)⟩ ?_ (.inl ⟨by rfl, ?_⟩) hS ?_
  rotate_left
  · (intro w hSw; (try dsimp only at hSw); go_simp; (try with_reducible rfl))
  try simp only [Act.put, sb, s0, sz]
  refine takeW 23 ⟨some 90, .pick (.tmp 88) (.tmp 89) (.const (.bool false)), 4, "law.go:24", #[⟨21, .data⟩, ⟨22, .data⟩], none⟩ ?_ (.inl ⟨by rfl, ?_⟩) hS ?_
  rotate_left
  · (intro w hSw; (try dsimp only at hSw); go_simp; (try with_reducible rfl))
  try simp only [Act.put, sb, s0, sz]
  refine takeW 24 ⟨some 91, .move (.tmp 90), 4, "law.go:24", #[⟨23, .data⟩, ⟨21, .chain⟩], none⟩ ?_ (.inl ⟨by rfl, ?_⟩) hS ?_
  rotate_left
  · (intro w hSw; (try dsimp only at hSw); go_simp; (try with_reducible rfl))
  try simp only [Act.put, sb, s0, sz]
  refine takeW 25 ⟨some 92, .move (.tmp 11), 27, "law.go:24", #[⟨24, .guard⟩], some (24, true)⟩ ?_ (.inl ⟨by rfl, ?_⟩) hS ?_
  rotate_left
  · (intro w hSw; (try dsimp only at hSw); go_simp; (try with_reducible rfl))
  try simp only [Act.put, sb, s0, sz]
  refine takeW 26 ⟨some 93, .binOp .eql 27 (.tmp 92) (.const (.int .i64 3)) 27, 4, "law.go:24", #[⟨25, .data⟩, ⟨24, .guard⟩], some (24, true)⟩ ?_ (.inl ⟨by rfl, ?_⟩) hS ?_
  rotate_left
  · (intro w hSw; (try dsimp only at hSw); go_simp; (try with_reducible rfl))
  try simp only [Act.put, sb, s0, sz]
  refine takeW 27 ⟨some 94, .pick (.tmp 91) (.tmp 93) (.const (.bool false)), 4, "law.go:24", #[⟨24, .data⟩, ⟨26, .data⟩], none⟩ ?_ (.inl ⟨by rfl, ?_⟩) hS ?_
  rotate_left
  · (intro w hSw; (try dsimp only at hSw); go_simp; (try with_reducible rfl))
  try simp only [Act.put, sb, s0, sz]
  refine takeW 28 ⟨some 95, .move (.tmp 94), 4, "law.go:24", #[⟨27, .data⟩, ⟨24, .chain⟩], none⟩ ?_ (.inl ⟨by rfl, ?_⟩) hS ?_
  rotate_left
  · (intro w hSw; (try dsimp only at hSw); go_simp; (try with_reducible rfl))
  try simp only [Act.put, sb, s0, sz]
  refine wpAnyH_ready (rs := [29]) (by kernel_rfl) (by simp) ?_
  refine (AllReadyH.cons (o := { dst := some 96, op := Go.Op.call { callee := Go.Callee.value (Go.Operand.func 18), args := #[Go.Operand.const (Go.Value.int Go.IntKind.i64 498)], argTypes := #[3] }, type := 3, pos := "law.go:24", after := #[{ on := 28, ground := Go.Ground.chain }, { on := 28, ground := Go.Ground.guard }], guard := some (28, true) }) rfl (fun K hK => ?_) AllReadyH.nil)
  (go_simp; refine (Need_any 498 (by omega) _).mono ?_; rintro e w3 ⟨rfl, rfl⟩)
  refine hK.out _ _ ⟨(atWm hE.drew (by repeat (first | exact List.Mem.head _ | refine List.Mem.tail _ ?_)) Tryd.isAgg30 Tryd.sizeOf30 rfl), (load_1 hE.drew 4 rfl)⟩ (fun hS => ?_)
  clear hK K
  try simp only [Act.put, sb, s0, sz]
  refine takeW 30 ⟨some 97, .binOp .eql 3 (.tmp 96) (.const (.int .i64 2)) 3, 4, "law.go:24", #[⟨29, .data⟩, ⟨28, .guard⟩], some (28, true)⟩ ?_ (.inl ⟨by rfl, ?_⟩) hS ?_
  rotate_left
  · (intro w hSw; (try dsimp only at hSw); go_simp; (try with_reducible rfl))
  try simp only [Act.put, sb, s0, sz]
  refine takeW 31 ⟨some 98, .pick (.tmp 95) (.tmp 97) (.const (.bool false)), 4, "law.go:24", #[⟨28, .data⟩, ⟨30, .data⟩], none⟩ ?_ (.inl ⟨by rfl, ?_⟩) hS ?_
  rotate_left
  · (intro w hSw; (try dsimp only at hSw); go_simp; (try with_reducible rfl))
  try simp only [Act.put, sb, s0, sz]
  refine takeW 32 ⟨some 99, .move (.tmp 98), 4, "law.go:24", #[⟨31, .data⟩, ⟨29, .chain⟩], none⟩ ?_ (.inl ⟨by rfl, ?_⟩) hS ?_
  rotate_left
  · (intro w hSw; (try dsimp only at hSw); go_simp; (try with_reducible rfl))
  try simp only [Act.put, sb, s0, sz]
  refine wpAnyH_ready (rs := [33]) (by kernel_rfl) (by simp) ?_
  refine (AllReadyH.cons (o := { dst := some 100, op := Go.Op.call { callee := Go.Callee.value (Go.Operand.func 18), args := #[Go.Operand.const (Go.Value.int Go.IntKind.i64 0)], argTypes := #[3] }, type := 3, pos := "law.go:24", after := #[{ on := 32, ground := Go.Ground.chain }, { on := 32, ground := Go.Ground.guard }], guard := some (32, true) }) rfl (fun K hK => ?_) AllReadyH.nil)
  (go_simp; refine (Need_any 0 (by omega) _).mono ?_; rintro e w4 ⟨rfl, rfl⟩)
  refine hK.out _ _ ⟨(atWm hE.drew (by repeat (first | exact List.Mem.head _ | refine List.Mem.tail _ ?_)) Tryd.isAgg30 Tryd.sizeOf30 rfl), (load_1 hE.drew 4 rfl)⟩ (fun hS => ?_)
  clear hK K
  try simp only [Act.put, sb, s0, sz]
  refine takeW 34 ⟨some 101, .binOp .eql 3 (.tmp 100) (.const (.int .i64 1)) 3, 4, "law.go:24", #[⟨33, .data⟩, ⟨32, .guard⟩], some (32, true)⟩ ?_ (.inl ⟨by rfl, ?_⟩) hS ?_
  rotate_left
  · (intro w hSw; (try dsimp only at hSw); go_simp; (try with_reducible rfl))
  try simp only [Act.put, sb, s0, sz]
  refine takeW 35 ⟨some 102, .pick (.tmp 99) (.tmp 101) (.const (.bool false)), 4, "law.go:24", #[⟨32, .data⟩, ⟨34, .data⟩], none⟩ ?_ (.inl ⟨by rfl, ?_⟩) hS ?_
  rotate_left
  · (intro w hSw; (try dsimp only at hSw); go_simp; (try with_reducible rfl))
  try simp only [Act.put, sb, s0, sz]
  refine takeW 36 ⟨some 0, .assign (.tmp 102), 4, "law.go:24", #[⟨35, .data⟩, ⟨33, .chain⟩, ⟨0, .phase⟩, ⟨1, .phase⟩, ⟨2, .phase⟩, ⟨3, .phase⟩, ⟨4, .phase⟩, ⟨5, .phase⟩, ⟨6, .phase⟩, ⟨7, .phase⟩, ⟨8, .phase⟩, ⟨9, .phase⟩, ⟨10, .phase⟩, ⟨11, .phase⟩, ⟨12, .phase⟩, ⟨13, .phase⟩, ⟨14, .phase⟩, ⟨15, .phase⟩, ⟨16, .phase⟩, ⟨17, .phase⟩, ⟨18, .phase⟩, ⟨19, .phase⟩, ⟨20, .phase⟩, ⟨21, .phase⟩, ⟨22, .phase⟩, ⟨23, .phase⟩, ⟨24, .phase⟩, ⟨25, .phase⟩, ⟨26, .phase⟩, ⟨27, .phase⟩, ⟨28, .phase⟩, ⟨29, .phase⟩, ⟨30, .phase⟩, ⟨31, .phase⟩, ⟨32, .phase⟩, ⟨33, .phase⟩, ⟨34, .phase⟩, ⟨35, .phase⟩], none⟩ ?_ (.inl ⟨by rfl, ?_⟩) hS ?_
  rotate_left
  · (intro w hSw; (try dsimp only at hSw); go_simp; (try with_reducible rfl))
  try simp only [Act.put, sb, s0, sz]
  refine wpAnyH_done (by kernel_rfl) ?_ _
  go_wp2
  go_ret
  exact ⟨_, rfl, rfl, hE.drew.tail.tail.tail.tail.tail⟩
end Go.Proofs.YtdpfigkjkjjedaaDoor
namespace Go.Proofs.YtdpfigkjkjjedaaDoor
open Go.RowKit Go.SL

set_option maxRecDepth 100000 in
theorem of05_any (s : Sht) {l : List HProp} {w : World} (hE : Ent l w) :
    Calls Tryd.prog 12 #[.agg #[.int .u64 s.seq, .bool s.last, .string ⟨s.text.toArray⟩]] w (Ret fun v w' => v = .agg #[.int .u64 s.seq, .bool s.last, .string ⟨s.text.toArray⟩] ∧ Ent l w') := by
  go_enter Tryd.func12, Tryd.ntmps12
  go_wp2_with (first
    | go_skip
    | ((with_reducible (show Go.wpList _ _ _ (Go.Oper.mk _ (.box _ _) _ _ _ _ :: _) _ _)); refine wpl_box hE rfl rfl rfl ?_; clear hE; intro b1 w hE; simp only [Act.eval, Act.put, List.setIfInBounds_toArray, List.set_cons_zero, List.set_cons_succ, getD_lit, List.getD_cons_succ, List.getD_cons_zero, Value.cells] at hE)
    | ((with_reducible (show Go.wpList _ _ _ (Go.Oper.mk _ (.alloc _) _ _ _ _ :: _) _ _)); refine wpl_alloc hE rfl rfl (by simp [go_sem]; rfl) ?_; clear hE; intro b2 w hE; simp only [Act.eval, Act.put, List.setIfInBounds_toArray, List.set_cons_zero, List.set_cons_succ, getD_lit, List.getD_cons_succ, List.getD_cons_zero, Value.cells] at hE)
    | ((with_reducible (show Go.wpList _ _ _ (Go.Oper.mk _ (.store _ _ _) _ _ _ _ :: _) _ _)); refine wpl_storeW hE 0 rfl rfl rfl (xs := [.int .u64 s.seq, .bool s.last, .string ⟨s.text.toArray⟩]) rfl rfl Tryd.sizeOf30 rfl (by simp [Value.oneCell']) rfl ?_; clear hE; intro w hE; simp only [List.set_cons_zero] at hE)
    | ((with_reducible (show Go.wpList _ _ _ (Go.Oper.mk _ (.load _ _) _ _ _ _ :: _) _ _)); (first | (refine wpl_load1 hE 0 rfl rfl rfl rfl (by simp [go_sem]) rfl ?_) | (refine wpl_load1 hE 1 rfl rfl rfl rfl (by simp [go_sem]) rfl ?_) | (refine wpl_load1 hE 2 rfl rfl rfl rfl (by simp [go_sem]) rfl ?_) | (refine wpl_load1 hE 3 rfl rfl rfl rfl (by simp [go_sem]) rfl ?_) | (refine wpl_load1 hE 4 rfl rfl rfl rfl (by simp [go_sem]) rfl ?_) | (refine wpl_load1 hE 5 rfl rfl rfl rfl (by simp [go_sem]) rfl ?_) | (refine wpl_load1 hE 6 rfl rfl rfl rfl (by simp [go_sem]) rfl ?_) | (refine wpl_load1 hE 7 rfl rfl rfl rfl (by simp [go_sem]) rfl ?_))))
  refine bodyPost_ret (results_cellA rfl hE 0 rfl rfl Tryd.isAgg30 Tryd.sizeOf30 rfl) rfl ?_
  exact ⟨_, rfl, rfl, hE.tail.tail⟩
theorem conv_row {l : List HProp} {w : World} (hE : Ent l w) (i : Nat) {ao : Option Addr} {c : Nat} {bs : List UInt8} (hi : l[i]? = some (rowB ao c bs)) : (convert 26 9 (.slice ao bs.length c)).run Tryd.prog w = .ok (.string ⟨bs.toArray⟩) w :=
  bytesToString_reads (P := Tryd.prog) Tryd.underlying26 Tryd.underlying5 Tryd.underlying9 (reads_row hE i hi) rfl

set_option maxRecDepth 100000 in
set_option maxHeartbeats 4000000 in
theorem SheetPuts_great {s : Sht} {b : List UInt8} (hg : 1000 < s.text.length ∨ 1000 < b.length) {l : List HProp} {w : World} (ht : Knows l Table) (hE : Ent l w) :
    Calls Tryd.prog 3 #[.agg #[.int .u64 s.seq, .bool s.last, .string ⟨s.text.toArray⟩], .string ⟨b.toArray⟩] w (Ret fun v w' => v = .bool true ∧ Ent l w') := by
  by_cases h1 : 1000 < s.text.length
  · have hd : decide ((1000 : Int) < (s.text.length : Int)) = true := decide_eq_true (by omega)
    go_enter Tryd.func3, Tryd.ntmps3
    go_wp2_with (first
      | go_skip
      | ((with_reducible (show Go.wpList _ _ _ (Go.Oper.mk _ (.box _ _) _ _ _ _ :: _) _ _)); refine wpl_box hE rfl rfl rfl ?_; clear hE; intro b1 w hE; simp only [Act.eval, Act.put, List.setIfInBounds_toArray, List.set_cons_zero, List.set_cons_succ, getD_lit, List.getD_cons_succ, List.getD_cons_zero, Value.cells] at hE)
      | ((with_reducible (show Go.wpList _ _ _ (Go.Oper.mk _ (.load _ _) _ _ _ _ :: _) _ _)); (first | (refine wpl_load1 hE 0 rfl rfl rfl rfl (by simp [go_sem]) rfl ?_) | (refine wpl_load1 hE 1 rfl rfl rfl rfl (by simp [go_sem]) rfl ?_) | (refine wpl_load1 hE 2 rfl rfl rfl rfl (by simp [go_sem]) rfl ?_) | (refine wpl_load1 hE 3 rfl rfl rfl rfl (by simp [go_sem]) rfl ?_) | (refine wpl_load1 hE 4 rfl rfl rfl rfl (by simp [go_sem]) rfl ?_) | (refine wpl_load1 hE 5 rfl rfl rfl rfl (by simp [go_sem]) rfl ?_) | (refine wpl_load1 hE 6 rfl rfl rfl rfl (by simp [go_sem]) rfl ?_) | (refine wpl_load1 hE 7 rfl rfl rfl rfl (by simp [go_sem]) rfl ?_)))
      | (go_at_call 10; refine (wakes05_any ht hE.tail).mono ?_; clear hE; rintro e w2 ⟨v, rfl, rfl, hE⟩))
    go_ret
    exact ⟨_, rfl, rfl, hE⟩
  · have hd : decide ((1000 : Int) < (s.text.length : Int)) = false := decide_eq_false (by omega)
    have hd2 : decide ((1000 : Int) < (b.length : Int)) = true := decide_eq_true (by omega)
    go_enter Tryd.func3, Tryd.ntmps3
    go_wp2_with (first
      | go_skip
      | ((with_reducible (show Go.wpList _ _ _ (Go.Oper.mk _ (.box _ _) _ _ _ _ :: _) _ _)); refine wpl_box hE rfl rfl rfl ?_; clear hE; intro b1 w hE; simp only [Act.eval, Act.put, List.setIfInBounds_toArray, List.set_cons_zero, List.set_cons_succ, getD_lit, List.getD_cons_succ, List.getD_cons_zero, Value.cells] at hE)
      | ((with_reducible (show Go.wpList _ _ _ (Go.Oper.mk _ (.load _ _) _ _ _ _ :: _) _ _)); (first | (refine wpl_load1 hE 0 rfl rfl rfl rfl (by simp [go_sem]) rfl ?_) | (refine wpl_load1 hE 1 rfl rfl rfl rfl (by simp [go_sem]) rfl ?_) | (refine wpl_load1 hE 2 rfl rfl rfl rfl (by simp [go_sem]) rfl ?_) | (refine wpl_load1 hE 3 rfl rfl rfl rfl (by simp [go_sem]) rfl ?_) | (refine wpl_load1 hE 4 rfl rfl rfl rfl (by simp [go_sem]) rfl ?_) | (refine wpl_load1 hE 5 rfl rfl rfl rfl (by simp [go_sem]) rfl ?_) | (refine wpl_load1 hE 6 rfl rfl rfl rfl (by simp [go_sem]) rfl ?_) | (refine wpl_load1 hE 7 rfl rfl rfl rfl (by simp [go_sem]) rfl ?_)))
      | (go_at_call 10; refine (wakes05_any ht hE.tail).mono ?_; clear hE; rintro e w2 ⟨v, rfl, rfl, hE⟩))
    go_ret
    exact ⟨_, rfl, rfl, hE⟩
theorem zs_rsht : zeroSize Tryd.prog 24 = some 3 := by kernel_rfl
theorem rTake_any {b : List UInt8} (hb : b.length ≤ 1000000) {l : List HProp} {w : World} (hE : Ent l w) :
    Calls Tryd.prog 15 #[.string ⟨b.toArray⟩] w (Ret fun v w' => v = .tuple #[shV (resD b), .int .i64 (resDE b)] ∧ Ent l w') := by
  cases h : b.length == 512 with
  | true => exact rTake_512 (by simpa using h) hE
  | false => exact rTake_short hb h hE

set_option maxRecDepth 100000 in
set_option maxHeartbeats 4000000 in
attribute [-go_sem] Instr.loadAt Go.run_equalIn_agg in
theorem SheetPuts_long {s : Sht} (hs : s.seq < 18446744073709551616) {b : List UInt8} (h1 : s.text.length ≤ 1000) (h2 : b.length ≤ 1000) (hlen : 497 < s.text.length) {l : List HProp} {w : World} (ht : Knows l Table) (hE : Ent l w) :
    Calls Tryd.prog 3 #[.agg #[.int .u64 s.seq, .bool s.last, .string ⟨s.text.toArray⟩], .string ⟨b.toArray⟩] w (Ret fun v w' => v = .bool true ∧ Ent l w') := by
  have hd : decide ((1000 : Int) < (s.text.length : Int)) = false := decide_eq_false (by omega)
  have hd2 : decide ((1000 : Int) < (b.length : Int)) = false := decide_eq_false (by omega)
  have Hs := SL.hid hs
  have H1 := SL.hid h1
  have H2 := SL.hid h2
  have hd3 : decide ((497 : Int) < (s.text.length : Int)) = true := decide_eq_true (by omega)
  have hd4 : decide ((s.text.length : Int) ≤ 497) = false := decide_eq_false (by omega)
  have Hlen := SL.hid hlen
  clear hlen
  clear hs h1 h2
  obtain ⟨sq, la, tt⟩ := s
  simp only at *
  go_enter Tryd.func3, Tryd.ntmps3
  go_wp2_with (first
    | go_skip
    | ((with_reducible (show Go.wpList _ _ _ (Go.Oper.mk _ (.box _ _) _ _ _ _ :: _) _ _)); refine wpl_box hE rfl rfl rfl ?_; clear hE; intro b1 w hE; simp only [Act.eval, Act.put, List.setIfInBounds_toArray, List.set_cons_zero, List.set_cons_succ, getD_lit, List.getD_cons_succ, List.getD_cons_zero, Value.cells] at hE)
    | ((with_reducible (show Go.wpList _ _ _ (Go.Oper.mk _ (.load 24 _) _ _ _ _ :: _) _ _)); refine wpl_loadW hE 0 rfl rfl rfl rfl Tryd.isAgg24 Tryd.sizeOf24 rfl ?_)
    | ((with_reducible (show Go.wpList _ _ _ (Go.Oper.mk _ (.load _ _) _ _ _ _ :: _) _ _)); (first | (refine wpl_load1 hE 0 rfl rfl rfl rfl (by simp [go_sem]) rfl ?_) | (refine wpl_load1 hE 1 rfl rfl rfl rfl (by simp [go_sem]) rfl ?_) | (refine wpl_load1 hE 2 rfl rfl rfl rfl (by simp [go_sem]) rfl ?_) | (refine wpl_load1 hE 3 rfl rfl rfl rfl (by simp [go_sem]) rfl ?_) | (refine wpl_load1 hE 4 rfl rfl rfl rfl (by simp [go_sem]) rfl ?_) | (refine wpl_load1 hE 5 rfl rfl rfl rfl (by simp [go_sem]) rfl ?_) | (refine wpl_load1 hE 6 rfl rfl rfl rfl (by simp [go_sem]) rfl ?_) | (refine wpl_load1 hE 7 rfl rfl rfl rfl (by simp [go_sem]) rfl ?_)))
    | (go_at_call 12; refine (of05_any ⟨sq, la, tt⟩ hE).mono ?_; clear hE; rintro e w2 ⟨v, rfl, rfl, hE⟩)
    | (go_at_call 11; refine (sPut_long Hlen.out hE).mono ?_; clear hE; rintro e w3 ⟨v, rfl, rfl, hE⟩))
  refine wp_region_held_drew (S := (fun w' => ((Instr.loadAt 9 (.pointer (some ⟨b1, 2, none⟩))).run Tryd.prog w' = .ok (.string ⟨tt.toArray⟩) w'))) (by kernel_rfl) (atVm hE.drew (by repeat (first | exact List.Mem.head _ | refine List.Mem.tail _ ?_)) (by simp [go_sem]) rfl) (fun hS => ?_)
  refine takeW 0 ⟨some 27, .fieldAddr 24 (.tmp 2) 2, 0, "law.go:33", #[], none⟩ ?_ (.inl ⟨by rfl, ?_⟩) hS ?_
  rotate_left
  · (intro w hSw; (try dsimp only at hSw); go_simp; (try with_reducible rfl))
  try simp only [Act.put, sb, s0, sz]
  refine takeW 1 ⟨some 28, .load 9 (.tmp 27), 9, "law.go:33", #[⟨0, .data⟩], none⟩ ?_ (.inl ⟨by rfl, ?_⟩) hS ?_
  rotate_left
  · (intro w hSw; (try dsimp only at hSw); go_simp; (try with_reducible rfl))
  try simp only [Act.put, sb, s0, sz]
  refine takeW 2 ⟨some 29, .call { callee := .builtin .len, args := #[.tmp 28], argTypes := #[9] }, 3, "law.go:33", #[⟨1, .data⟩], none⟩ ?_ (.inl ⟨by rfl, ?_⟩) hS ?_
  rotate_left
  · (intro w hSw; (try dsimp only at hSw); go_simp; (try with_reducible rfl))
  try simp only [Act.put, sb, s0, sz]
  refine takeW 3 ⟨some 30, .binOp .gtr 3 (.tmp 29) (.const (.int .i64 497)) 3, 4, "law.go:33", #[⟨2, .data⟩], none⟩ ?_ (.inl ⟨by rfl, ?_⟩) hS ?_
  rotate_left
  · (intro w hSw; (try dsimp only at hSw); go_simp; (try with_reducible rfl))
  try simp only [Act.put, sb, s0, sz]
  refine takeW 4 ⟨some 31, .move (.tmp 30), 4, "law.go:33", #[⟨3, .data⟩], none⟩ ?_ (.inl ⟨by rfl, ?_⟩) hS ?_
  rotate_left
  · (intro w hSw; (try dsimp only at hSw); go_simp; (try with_reducible rfl))
  try simp only [Act.put, sb, s0, sz]
  refine takeW 5 ⟨some 32, .move (.tmp 5), 26, "law.go:33", #[⟨4, .guard⟩], some (4, true)⟩ ?_ (.inl ⟨by rfl, ?_⟩) hS ?_
  rotate_left
  · (intro w hSw; (try dsimp only at hSw); go_simp; (try with_reducible rfl))
  try simp only [Act.put, sb, s0, sz]
  refine takeW 6 ⟨some 33, .call { callee := .builtin .len, args := #[.tmp 32], argTypes := #[26] }, 3, "law.go:33", #[⟨5, .data⟩, ⟨4, .guard⟩], some (4, true)⟩ ?_ (.inl ⟨by rfl, ?_⟩) hS ?_
  rotate_left
  · (intro w hSw; (try dsimp only at hSw); go_simp; (try with_reducible rfl))
  try simp only [Act.put, sb, s0, sz]
  refine takeW 7 ⟨some 34, .binOp .neq 3 (.tmp 33) (.const (.int .i64 0)) 3, 4, "law.go:33", #[⟨6, .data⟩, ⟨4, .guard⟩], some (4, true)⟩ ?_ (.inl ⟨by rfl, ?_⟩) hS ?_
  rotate_left
  · (intro w hSw; (try dsimp only at hSw); go_simp; (try with_reducible rfl))
  try simp only [Act.put, sb, s0, sz]
  refine takeW 8 ⟨some 35, .move (.tmp 34), 4, "law.go:33", #[⟨7, .data⟩, ⟨4, .chain⟩, ⟨4, .guard⟩], some (4, true)⟩ ?_ (.inl ⟨by rfl, ?_⟩) hS ?_
  rotate_left
  · (intro w hSw; (try dsimp only at hSw); go_simp; (try with_reducible rfl))
  try simp only [Act.put, sb, s0, sz]
  refine takeW 9 ⟨some 36, .move (.tmp 6), 27, "law.go:33", #[⟨8, .guard⟩], some (8, false)⟩ ?_ (.inl ⟨by rfl, ?_⟩) hS ?_
  rotate_left
  · (intro w hSw; (try dsimp only at hSw); go_simp; (try with_reducible rfl))
  try simp only [Act.put, sb, s0, sz]
  refine takeW 10 ⟨some 37, .binOp .neq 27 (.tmp 36) (.const (.int .i64 6)) 27, 4, "law.go:33", #[⟨9, .data⟩, ⟨8, .guard⟩], some (8, false)⟩ ?_ (.inl ⟨by rfl, ?_⟩) hS ?_
  rotate_left
  · (intro w hSw; (try dsimp only at hSw); go_simp; (try with_reducible rfl))
  try simp only [Act.put, sb, s0, sz]
  refine takeW 11 ⟨some 38, .pick (.tmp 35) (.const (.bool true)) (.tmp 37), 4, "law.go:33", #[⟨8, .data⟩, ⟨10, .data⟩, ⟨4, .guard⟩], some (4, true)⟩ ?_ (.inl ⟨by rfl, ?_⟩) hS ?_
  rotate_left
  · (intro w hSw; (try dsimp only at hSw); go_simp; (try with_reducible rfl))
  try simp only [Act.put, sb, s0, sz]
  refine takeW 12 ⟨some 39, .pick (.tmp 31) (.tmp 38) (.const (.bool false)), 4, "law.go:33", #[⟨4, .data⟩, ⟨11, .data⟩], none⟩ ?_ (.inl ⟨by rfl, ?_⟩) hS ?_
  rotate_left
  · (intro w hSw; (try dsimp only at hSw); go_simp; (try with_reducible rfl))
  try simp only [Act.put, sb, s0, sz]
  refine takeW 13 ⟨some 40, .move (.tmp 39), 4, "law.go:33", #[⟨12, .data⟩, ⟨8, .chain⟩], none⟩ ?_ (.inl ⟨by rfl, ?_⟩) hS ?_
  rotate_left
  · (intro w hSw; (try dsimp only at hSw); go_simp; (try with_reducible rfl))
  try simp only [Act.put, sb, s0, sz]
  refine takeW 14 ⟨some 41, .fieldAddr 24 (.tmp 2) 2, 0, "law.go:33", #[⟨13, .guard⟩], some (13, false)⟩ ?_ (.inl ⟨by rfl, ?_⟩) hS ?_
  rotate_left
  · (intro w hSw; (try dsimp only at hSw); go_simp; (try with_reducible rfl))
  try simp only [Act.put, sb, s0, sz]
  refine takeW 15 ⟨some 42, .load 9 (.tmp 41), 9, "law.go:33", #[⟨14, .data⟩, ⟨13, .guard⟩], some (13, false)⟩ ?_ (.inl ⟨by rfl, ?_⟩) hS ?_
  rotate_left
  · (intro w hSw; (try dsimp only at hSw); go_simp; (try with_reducible rfl))
  try simp only [Act.put, sb, s0, sz]
  refine takeW 16 ⟨some 43, .call { callee := .builtin .len, args := #[.tmp 42], argTypes := #[9] }, 3, "law.go:33", #[⟨15, .data⟩, ⟨13, .guard⟩], some (13, false)⟩ ?_ (.inl ⟨by rfl, ?_⟩) hS ?_
  rotate_left
  · (intro w hSw; (try dsimp only at hSw); go_simp; (try with_reducible rfl))
  try simp only [Act.put, sb, s0, sz]
  refine takeW 17 ⟨some 44, .binOp .leq 3 (.tmp 43) (.const (.int .i64 497)) 3, 4, "law.go:33", #[⟨16, .data⟩, ⟨13, .guard⟩], some (13, false)⟩ ?_ (.inl ⟨by rfl, ?_⟩) hS ?_
  rotate_left
  · (intro w hSw; (try dsimp only at hSw); go_simp; (try with_reducible rfl))
  try simp only [Act.put, sb, s0, sz]
  refine takeW 18 ⟨some 45, .move (.tmp 44), 4, "law.go:33", #[⟨17, .data⟩, ⟨13, .chain⟩, ⟨13, .guard⟩], some (13, false)⟩ ?_ (.inl ⟨by rfl, ?_⟩) hS ?_
  rotate_left
  · (intro w hSw; (try dsimp only at hSw); go_simp; (try with_reducible rfl))
  try simp only [Act.put, sb, s0, sz]
  refine takeW 19 ⟨some 46, .move (.tmp 5), 26, "law.go:33", #[⟨18, .guard⟩], some (18, true)⟩ undef (.inr ⟨by rfl, rfl⟩) hS ?_; try simp only [Act.put, sb, s0, sz]
  refine takeW 20 ⟨some 47, .convert 26 9 (.tmp 46), 9, "law.go:33", #[⟨19, .data⟩, ⟨18, .guard⟩], some (18, true)⟩ undef (.inr ⟨by rfl, rfl⟩) hS ?_; try simp only [Act.put, sb, s0, sz]
  refine takeW 21 ⟨some 48, .load 24 (.tmp 2), 24, "law.go:33", #[⟨18, .guard⟩], some (18, true)⟩ undef (.inr ⟨by rfl, rfl⟩) hS ?_; try simp only [Act.put, sb, s0, sz]
  refine takeW 22 ⟨some 49, .call { callee := .value (.func 13), args := #[.tmp 48], argTypes := #[24] }, 9, "law.go:33", #[⟨21, .data⟩, ⟨18, .chain⟩, ⟨18, .guard⟩], some (18, true)⟩ undef (.inr ⟨by rfl, rfl⟩) hS ?_; try simp only [Act.put, sb, s0, sz]
  refine takeW 23 ⟨some 50, .binOp .neq 9 (.tmp 47) (.tmp 49) 9, 4, "law.go:33", #[⟨20, .data⟩, ⟨22, .data⟩, ⟨18, .guard⟩], some (18, true)⟩ undef (.inr ⟨by rfl, rfl⟩) hS ?_; try simp only [Act.put, sb, s0, sz]
  refine takeW 24 ⟨some 51, .move (.tmp 50), 4, "law.go:33", #[⟨23, .data⟩, ⟨22, .chain⟩, ⟨18, .guard⟩], some (18, true)⟩ undef (.inr ⟨by rfl, rfl⟩) hS ?_; try simp only [Act.put, sb, s0, sz]
  refine takeW 25 ⟨some 52, .move (.tmp 6), 27, "law.go:33", #[⟨24, .guard⟩], some (24, false)⟩ undef (.inr ⟨by rfl, rfl⟩) hS ?_; try simp only [Act.put, sb, s0, sz]
  refine takeW 26 ⟨some 53, .binOp .neq 27 (.tmp 52) (.const (.int .i64 0)) 27, 4, "law.go:33", #[⟨25, .data⟩, ⟨24, .guard⟩], some (24, false)⟩ undef (.inr ⟨by rfl, rfl⟩) hS ?_; try simp only [Act.put, sb, s0, sz]
  refine takeW 27 ⟨some 54, .pick (.tmp 51) (.const (.bool true)) (.tmp 53), 4, "law.go:33", #[⟨24, .data⟩, ⟨26, .data⟩, ⟨18, .guard⟩], some (18, true)⟩ undef (.inr ⟨by rfl, rfl⟩) hS ?_; try simp only [Act.put, sb, s0, sz]
  refine takeW 28 ⟨some 55, .pick (.tmp 45) (.tmp 54) (.const (.bool false)), 4, "law.go:33", #[⟨18, .data⟩, ⟨27, .data⟩, ⟨13, .guard⟩], some (13, false)⟩ ?_ (.inl ⟨by rfl, ?_⟩) hS ?_
  rotate_left
  · (intro w hSw; (try dsimp only at hSw); go_simp; (try with_reducible rfl))
  try simp only [Act.put, sb, s0, sz]
  refine takeW 29 ⟨some 56, .pick (.tmp 40) (.const (.bool true)) (.tmp 55), 4, "law.go:33", #[⟨13, .data⟩, ⟨28, .data⟩], none⟩ ?_ (.inl ⟨by rfl, ?_⟩) hS ?_
  rotate_left
  · (intro w hSw; (try dsimp only at hSw); go_simp; (try with_reducible rfl))
  try simp only [Act.put, sb, s0, sz]
  refine wpAnyH_done (by kernel_rfl) ?_ _
  have hEr := hE.drew
  generalize World.drew _ = wr at hEr ⊢

  obtain ⟨e1, e2⟩ := res_same b
  have E1 := SL.hid e1
  have E2 := SL.hid e2
  clear e1 e2
  have hE4 : Ent (pt b1 (.cells #[.int .u64 sq, .bool la, .string ⟨tt.toArray⟩] 24) :: l) wr := hEr
  clear hEr
  have HT : ∀ {l' : List HProp} {w : World} {ao : Option Addr} {c : Nat}, Knows l' Table → Knows l' (reads (.slice ao b.length c) b.length (bvals b)) → Ent l' w → Calls Tryd.prog 14 #[.slice ao b.length c] w (Ret fun v w' => v = .tuple #[shV (resS b), .int .i64 (resSE b)] ∧ Ent l' w') := fun h1 h2 h3 => sTake_any (by have := H2.out; omega) h1 h2 h3
  have HR : ∀ {l : List HProp} {w : World}, Ent l w → Calls Tryd.prog 15 #[.string ⟨b.toArray⟩] w (Ret fun v w' => v = .tuple #[shV (resS b), .int .i64 (resSE b)] ∧ Ent l w') := fun h => by
    have h := rTake_any (b := b) (by have := H2.out; omega) h
    rw [← E1.out, ← E2.out] at h
    exact h
  obtain ⟨z, hz⟩ : ∃ z, resS b = z := ⟨_, rfl⟩
  obtain ⟨z1, z2, z3⟩ := z
  rw [hz] at HT HR
  simp only [shV] at HT HR
  generalize resSE b = er at *
  have hcm : ∀ w, (Op.equalIn 10000 30 (.agg #[.int .u64 z1, .bool z2, .string ⟨z3.toArray⟩]) (.agg #[.int .u64 z1, .bool z2, .string ⟨z3.toArray⟩])).run Tryd.prog w = .ok true w := fun w => by
    have := eqSht ⟨z1, z2, z3⟩ ⟨z1, z2, z3⟩ w
    rw [beq_self_eq_true] at this
    exact this
  go_wp2_with (first
    | go_skip
    | ((with_reducible (show Go.wpList _ _ _ (Go.Oper.mk _ (.convert _ _ _) _ _ _ _ :: _) _ _)); refine wpl_strB hE4 rfl rfl (ys := b) rfl ?_; clear hE4; intro bv cv w5 hE5)
    | (go_at_call 14; refine (HT (ht.cons.cons) (fun _ h => h.views 0 rfl) hE5).mono ?_; clear hE5 HT; rintro e w6 ⟨v, rfl, rfl, hE⟩)
    | ((with_reducible (show Go.wpList _ _ _ (Go.Oper.mk _ (.alloc 30) _ _ _ _ :: _) _ _)); refine wpl_allocN hE rfl rfl (n := 3) zs_sht ?_; clear hE; intro b7 cs w7 hq hE)
    | ((with_reducible (show Go.wpList _ _ _ (Go.Oper.mk _ (.store 30 _ _) _ _ _ _ :: _) _ _)); refine wpl_storeN hE 0 rfl rfl rfl rfl (xs := [.int .u64 z1, .bool z2, .string ⟨z3.toArray⟩]) rfl Tryd.sizeOf30 rfl (by simp [Value.oneCell']) hq ?_; clear hE hq; intro w8 hE; simp only [List.set_cons_zero] at hE)
    | (go_at_call 15; refine (HR hE).mono ?_; clear hE HR; rintro e w9 ⟨v, rfl, rfl, hE⟩)
    | ((with_reducible (show Go.wpList _ _ _ (Go.Oper.mk _ (.alloc 24) _ _ _ _ :: _) _ _)); refine wpl_allocN hE rfl rfl (n := 3) zs_rsht ?_; clear hE; intro b9 cs w10 hq hE)
    | ((with_reducible (show Go.wpList _ _ _ (Go.Oper.mk _ (.store 24 _ _) _ _ _ _ :: _) _ _)); refine wpl_storeN hE 0 rfl rfl rfl rfl (xs := [.int .u64 z1, .bool z2, .string ⟨z3.toArray⟩]) rfl Tryd.sizeOf24 rfl (by simp [Value.oneCell']) hq ?_; clear hE hq; intro w11 hE; simp only [List.set_cons_zero] at hE))
  refine wp_region_held_drew (S := (fun w' => ((Instr.loadAt 30 (.pointer (some ⟨b7, 0, none⟩))).run Tryd.prog w' = .ok (.agg #[.int .u64 z1, .bool z2, .string ⟨z3.toArray⟩]) w') ∧ ((Instr.loadAt 24 (.pointer (some ⟨b9, 0, none⟩))).run Tryd.prog w' = .ok (.agg #[.int .u64 z1, .bool z2, .string ⟨z3.toArray⟩]) w'))) (by kernel_rfl) ⟨(atWm hE.drew (by repeat (first | exact List.Mem.head _ | refine List.Mem.tail _ ?_)) Tryd.isAgg30 Tryd.sizeOf30 rfl), (atWm hE.drew (by repeat (first | exact List.Mem.head _ | refine List.Mem.tail _ ?_)) Tryd.isAgg24 Tryd.sizeOf24 rfl)⟩ (fun hS => ?_)
  refine takeW 0 ⟨some 68, .load 30 (.tmp 7), 30, "law.go:38", #[], none⟩ ?_ (.inl ⟨by rfl, ?_⟩) hS ?_
  rotate_left
  · (intro w hSw; (try dsimp only at hSw); go_simp; (try with_reducible rfl))
  try simp only [Act.put, sb, s0, sz]
  refine takeW 1 ⟨some 69, .load 24 (.tmp 9), 24, "law.go:38", #[], none⟩ ?_ (.inl ⟨by rfl, ?_⟩) hS ?_
  rotate_left
  · (intro w hSw; (try dsimp only at hSw); go_simp; (try with_reducible rfl))
  try simp only [Act.put, sb, s0, sz]
  refine wpAnyH_ready (rs := [2]) (by kernel_rfl) (by simp) ?_
  refine (AllReadyH.cons (o := { dst := some 70, op := Go.Op.call { callee := Go.Callee.value (Go.Operand.func 12), args := #[Go.Operand.tmp 69], argTypes := #[24] }, type := 30, pos := "law.go:38", after := #[{ on := 1, ground := Go.Ground.data }], guard := none }) rfl (fun K hK => ?_) AllReadyH.nil)
  (go_simp; refine (of05_any ⟨z1, z2, z3⟩ hE.drew).mono ?_; rintro e wa ⟨v, rfl, rfl, hEa⟩)
  refine hK.out _ _ ⟨(atWm hEa (by repeat (first | exact List.Mem.head _ | refine List.Mem.tail _ ?_)) Tryd.isAgg30 Tryd.sizeOf30 rfl), (atWm hEa (by repeat (first | exact List.Mem.head _ | refine List.Mem.tail _ ?_)) Tryd.isAgg24 Tryd.sizeOf24 rfl)⟩ (fun hS => ?_)
  clear hK K
  try simp only [Act.put, sb, s0, sz]
  refine takeW 3 ⟨some 71, .binOp .eql 30 (.tmp 68) (.tmp 70) 30, 4, "law.go:38", #[⟨0, .data⟩, ⟨2, .data⟩], none⟩ ?_ (.inl ⟨by rfl, ?_⟩) hS ?_
  rotate_left
  · (intro w hSw; (try dsimp only at hSw); go_simp; (try with_reducible rfl))
  try simp only [Act.put, sb, s0, sz]
  refine takeW 4 ⟨some 72, .move (.tmp 71), 4, "law.go:38", #[⟨3, .data⟩, ⟨2, .chain⟩], none⟩ ?_ (.inl ⟨by rfl, ?_⟩) hS ?_
  rotate_left
  · (intro w hSw; (try dsimp only at hSw); go_simp; (try with_reducible rfl))
  try simp only [Act.put, sb, s0, sz]
  refine takeW 5 ⟨some 73, .move (.tmp 8), 27, "law.go:38", #[⟨4, .guard⟩], some (4, true)⟩ ?_ (.inl ⟨by rfl, ?_⟩) hS ?_
  rotate_left
  · (intro w hSw; (try dsimp only at hSw); go_simp; (try with_reducible rfl))
  try simp only [Act.put, sb, s0, sz]
  refine takeW 6 ⟨some 74, .move (.tmp 10), 27, "law.go:38", #[⟨4, .guard⟩], some (4, true)⟩ ?_ (.inl ⟨by rfl, ?_⟩) hS ?_
  rotate_left
  · (intro w hSw; (try dsimp only at hSw); go_simp; (try with_reducible rfl))
  try simp only [Act.put, sb, s0, sz]
  refine takeW 7 ⟨some 75, .binOp .eql 27 (.tmp 73) (.tmp 74) 27, 4, "law.go:38", #[⟨5, .data⟩, ⟨6, .data⟩, ⟨4, .guard⟩], some (4, true)⟩ ?_ (.inl ⟨by rfl, ?_⟩) hS ?_
  rotate_left
  · (intro w hSw; (try dsimp only at hSw); go_simp; (try with_reducible rfl))
  try simp only [Act.put, sb, s0, sz]
  refine takeW 8 ⟨some 76, .pick (.tmp 72) (.tmp 75) (.const (.bool false)), 4, "law.go:38", #[⟨4, .data⟩, ⟨7, .data⟩], none⟩ ?_ (.inl ⟨by rfl, ?_⟩) hS ?_
  rotate_left
  · (intro w hSw; (try dsimp only at hSw); go_simp; (try with_reducible rfl))
  try simp only [Act.put, sb, s0, sz]
  refine takeW 9 ⟨some 77, .move (.tmp 76), 4, "law.go:38", #[⟨8, .data⟩, ⟨4, .chain⟩], none⟩ ?_ (.inl ⟨by rfl, ?_⟩) hS ?_
  rotate_left
  · (intro w hSw; (try dsimp only at hSw); go_simp; (try with_reducible rfl))
  try simp only [Act.put, sb, s0, sz]
  refine wpAnyH_ready (rs := [10]) (by kernel_rfl) (by simp) ?_
  refine (AllReadyH.cons (o := { dst := some 78, op := Go.Op.call { callee := Go.Callee.value (Go.Operand.func 10), args := #[], argTypes := #[] }, type := 4, pos := "law.go:38", after := #[{ on := 9, ground := Go.Ground.chain }, { on := 9, ground := Go.Ground.guard }], guard := some (9, true) }) rfl (fun K hK => ?_) AllReadyH.nil)
  (go_simp; refine (wakes05_any (ht.cons.cons.cons.cons) hEa).mono ?_; rintro e wb ⟨v, rfl, rfl, hEb⟩)
  refine hK.out _ _ ⟨(atWm hEb (by repeat (first | exact List.Mem.head _ | refine List.Mem.tail _ ?_)) Tryd.isAgg30 Tryd.sizeOf30 rfl), (atWm hEb (by repeat (first | exact List.Mem.head _ | refine List.Mem.tail _ ?_)) Tryd.isAgg24 Tryd.sizeOf24 rfl)⟩ (fun hS => ?_)
  clear hK K
  try simp only [Act.put, sb, s0, sz]
  refine takeW 11 ⟨some 79, .pick (.tmp 77) (.tmp 78) (.const (.bool false)), 4, "law.go:38", #[⟨9, .data⟩, ⟨10, .data⟩], none⟩ ?_ (.inl ⟨by rfl, ?_⟩) hS ?_
  rotate_left
  · (intro w hSw; (try dsimp only at hSw); go_simp; (try with_reducible rfl))
  try simp only [Act.put, sb, s0, sz]
  refine takeW 12 ⟨some 4, .assign (.tmp 79), 4, "law.go:38", #[⟨11, .data⟩, ⟨10, .chain⟩, ⟨0, .phase⟩, ⟨1, .phase⟩, ⟨2, .phase⟩, ⟨3, .phase⟩, ⟨4, .phase⟩, ⟨5, .phase⟩, ⟨6, .phase⟩, ⟨7, .phase⟩, ⟨8, .phase⟩, ⟨9, .phase⟩, ⟨10, .phase⟩, ⟨11, .phase⟩], none⟩ ?_ (.inl ⟨by rfl, ?_⟩) hS ?_
  rotate_left
  · (intro w hSw; (try dsimp only at hSw); go_simp; (try with_reducible rfl))
  try simp only [Act.put, sb, s0, sz]
  refine wpAnyH_done (by kernel_rfl) ?_ _
  go_wp2
  go_ret
  exact ⟨_, rfl, rfl, hEb.tail.tail.tail.tail⟩

set_option maxRecDepth 100000 in
set_option maxHeartbeats 4000000 in
attribute [-go_sem] Instr.loadAt Go.run_equalIn_agg in
theorem SheetPuts_short {s : Sht} (hs : s.seq < 18446744073709551616) {b : List UInt8} (h1 : s.text.length ≤ 1000) (h2 : b.length ≤ 1000) (hlen : s.text.length ≤ 497) {l : List HProp} {w : World} (ht : Knows l Table) (hE : Ent l w) :
    Calls Tryd.prog 3 #[.agg #[.int .u64 s.seq, .bool s.last, .string ⟨s.text.toArray⟩], .string ⟨b.toArray⟩] w (Ret fun v w' => v = .bool true ∧ Ent l w') := by
  have hd : decide ((1000 : Int) < (s.text.length : Int)) = false := decide_eq_false (by omega)
  have hd2 : decide ((1000 : Int) < (b.length : Int)) = false := decide_eq_false (by omega)
  have Hs := SL.hid hs
  have H1 := SL.hid h1
  have H2 := SL.hid h2
  have hd3 : decide ((497 : Int) < (s.text.length : Int)) = false := decide_eq_false (by omega)
  have hd4 : decide ((s.text.length : Int) ≤ 497) = true := decide_eq_true (by omega)
  have Hlen := SL.hid hlen
  clear hlen
  clear hs h1 h2
  obtain ⟨sq, la, tt⟩ := s
  simp only at *
  go_enter Tryd.func3, Tryd.ntmps3
  go_wp2_with (first
    | go_skip
    | ((with_reducible (show Go.wpList _ _ _ (Go.Oper.mk _ (.box _ _) _ _ _ _ :: _) _ _)); refine wpl_box hE rfl rfl rfl ?_; clear hE; intro b1 w hE; simp only [Act.eval, Act.put, List.setIfInBounds_toArray, List.set_cons_zero, List.set_cons_succ, getD_lit, List.getD_cons_succ, List.getD_cons_zero, Value.cells] at hE)
    | ((with_reducible (show Go.wpList _ _ _ (Go.Oper.mk _ (.load 24 _) _ _ _ _ :: _) _ _)); refine wpl_loadW hE 0 rfl rfl rfl rfl Tryd.isAgg24 Tryd.sizeOf24 rfl ?_)
    | ((with_reducible (show Go.wpList _ _ _ (Go.Oper.mk _ (.load _ _) _ _ _ _ :: _) _ _)); (first | (refine wpl_load1 hE 0 rfl rfl rfl rfl (by simp [go_sem]) rfl ?_) | (refine wpl_load1 hE 1 rfl rfl rfl rfl (by simp [go_sem]) rfl ?_) | (refine wpl_load1 hE 2 rfl rfl rfl rfl (by simp [go_sem]) rfl ?_) | (refine wpl_load1 hE 3 rfl rfl rfl rfl (by simp [go_sem]) rfl ?_) | (refine wpl_load1 hE 4 rfl rfl rfl rfl (by simp [go_sem]) rfl ?_) | (refine wpl_load1 hE 5 rfl rfl rfl rfl (by simp [go_sem]) rfl ?_) | (refine wpl_load1 hE 6 rfl rfl rfl rfl (by simp [go_sem]) rfl ?_) | (refine wpl_load1 hE 7 rfl rfl rfl rfl (by simp [go_sem]) rfl ?_)))
    | (go_at_call 12; refine (of05_any ⟨sq, la, tt⟩ hE).mono ?_; clear hE; rintro e w2 ⟨v, rfl, rfl, hE⟩)
    | (go_at_call 11; refine (sPut_ok la Hs.out Hlen.out ht.cons hE).mono ?_; clear hE; rintro e w3 ⟨v, rfl, ap, cp, rfl, hE⟩))
  refine wp_region_held_drew (S := (fun w' => ((Instr.loadAt 9 (.pointer (some ⟨b1, 2, none⟩))).run Tryd.prog w' = .ok (.string ⟨tt.toArray⟩) w') ∧ ((Instr.loadAt 24 (.pointer (some ⟨b1, 0, none⟩))).run Tryd.prog w' = .ok (.agg #[.int .u64 sq, .bool la, .string ⟨tt.toArray⟩]) w') ∧ ((convert 26 9 (.slice ap (shP sq la tt).length cp)).run Tryd.prog w' = .ok (.string ⟨(shP sq la tt).toArray⟩) w'))) (by kernel_rfl) ⟨(atVm hE.drew (by repeat (first | exact List.Mem.head _ | refine List.Mem.tail _ ?_)) (by simp [go_sem]) rfl), (atWm hE.drew (by repeat (first | exact List.Mem.head _ | refine List.Mem.tail _ ?_)) Tryd.isAgg24 Tryd.sizeOf24 rfl), (conv_row hE.drew 0 rfl)⟩ (fun hS => ?_)
  refine takeW 0 ⟨some 27, .fieldAddr 24 (.tmp 2) 2, 0, "law.go:33", #[], none⟩ ?_ (.inl ⟨by rfl, ?_⟩) hS ?_
  rotate_left
  · (intro w hSw; (try dsimp only at hSw); go_simp; (try with_reducible rfl))
  try simp only [Act.put, sb, s0, sz]
  refine takeW 1 ⟨some 28, .load 9 (.tmp 27), 9, "law.go:33", #[⟨0, .data⟩], none⟩ ?_ (.inl ⟨by rfl, ?_⟩) hS ?_
  rotate_left
  · (intro w hSw; (try dsimp only at hSw); go_simp; (try with_reducible rfl))
  try simp only [Act.put, sb, s0, sz]
  refine takeW 2 ⟨some 29, .call { callee := .builtin .len, args := #[.tmp 28], argTypes := #[9] }, 3, "law.go:33", #[⟨1, .data⟩], none⟩ ?_ (.inl ⟨by rfl, ?_⟩) hS ?_
  rotate_left
  · (intro w hSw; (try dsimp only at hSw); go_simp; (try with_reducible rfl))
  try simp only [Act.put, sb, s0, sz]
  refine takeW 3 ⟨some 30, .binOp .gtr 3 (.tmp 29) (.const (.int .i64 497)) 3, 4, "law.go:33", #[⟨2, .data⟩], none⟩ ?_ (.inl ⟨by rfl, ?_⟩) hS ?_
  rotate_left
  · (intro w hSw; (try dsimp only at hSw); go_simp; (try with_reducible rfl))
  try simp only [Act.put, sb, s0, sz]
  refine takeW 4 ⟨some 31, .move (.tmp 30), 4, "law.go:33", #[⟨3, .data⟩], none⟩ ?_ (.inl ⟨by rfl, ?_⟩) hS ?_
  rotate_left
  · (intro w hSw; (try dsimp only at hSw); go_simp; (try with_reducible rfl))
  try simp only [Act.put, sb, s0, sz]
  refine takeW 5 ⟨some 32, .move (.tmp 5), 26, "law.go:33", #[⟨4, .guard⟩], some (4, true)⟩ undef (.inr ⟨by rfl, rfl⟩) hS ?_; try simp only [Act.put, sb, s0, sz]
  refine takeW 6 ⟨some 33, .call { callee := .builtin .len, args := #[.tmp 32], argTypes := #[26] }, 3, "law.go:33", #[⟨5, .data⟩, ⟨4, .guard⟩], some (4, true)⟩ undef (.inr ⟨by rfl, rfl⟩) hS ?_; try simp only [Act.put, sb, s0, sz]
  refine takeW 7 ⟨some 34, .binOp .neq 3 (.tmp 33) (.const (.int .i64 0)) 3, 4, "law.go:33", #[⟨6, .data⟩, ⟨4, .guard⟩], some (4, true)⟩ undef (.inr ⟨by rfl, rfl⟩) hS ?_; try simp only [Act.put, sb, s0, sz]
  refine takeW 8 ⟨some 35, .move (.tmp 34), 4, "law.go:33", #[⟨7, .data⟩, ⟨4, .chain⟩, ⟨4, .guard⟩], some (4, true)⟩ undef (.inr ⟨by rfl, rfl⟩) hS ?_; try simp only [Act.put, sb, s0, sz]
  refine takeW 9 ⟨some 36, .move (.tmp 6), 27, "law.go:33", #[⟨8, .guard⟩], some (8, false)⟩ undef (.inr ⟨by rfl, rfl⟩) hS ?_; try simp only [Act.put, sb, s0, sz]
  refine takeW 10 ⟨some 37, .binOp .neq 27 (.tmp 36) (.const (.int .i64 6)) 27, 4, "law.go:33", #[⟨9, .data⟩, ⟨8, .guard⟩], some (8, false)⟩ undef (.inr ⟨by rfl, rfl⟩) hS ?_; try simp only [Act.put, sb, s0, sz]
  refine takeW 11 ⟨some 38, .pick (.tmp 35) (.const (.bool true)) (.tmp 37), 4, "law.go:33", #[⟨8, .data⟩, ⟨10, .data⟩, ⟨4, .guard⟩], some (4, true)⟩ undef (.inr ⟨by rfl, rfl⟩) hS ?_; try simp only [Act.put, sb, s0, sz]
  refine takeW 12 ⟨some 39, .pick (.tmp 31) (.tmp 38) (.const (.bool false)), 4, "law.go:33", #[⟨4, .data⟩, ⟨11, .data⟩], none⟩ ?_ (.inl ⟨by rfl, ?_⟩) hS ?_
  rotate_left
  · (intro w hSw; (try dsimp only at hSw); go_simp; (try with_reducible rfl))
  try simp only [Act.put, sb, s0, sz]
  refine takeW 13 ⟨some 40, .move (.tmp 39), 4, "law.go:33", #[⟨12, .data⟩, ⟨8, .chain⟩], none⟩ ?_ (.inl ⟨by rfl, ?_⟩) hS ?_
  rotate_left
  · (intro w hSw; (try dsimp only at hSw); go_simp; (try with_reducible rfl))
  try simp only [Act.put, sb, s0, sz]
  refine takeW 14 ⟨some 41, .fieldAddr 24 (.tmp 2) 2, 0, "law.go:33", #[⟨13, .guard⟩], some (13, false)⟩ ?_ (.inl ⟨by rfl, ?_⟩) hS ?_
  rotate_left
  · (intro w hSw; (try dsimp only at hSw); go_simp; (try with_reducible rfl))
  try simp only [Act.put, sb, s0, sz]
  refine takeW 15 ⟨some 42, .load 9 (.tmp 41), 9, "law.go:33", #[⟨14, .data⟩, ⟨13, .guard⟩], some (13, false)⟩ ?_ (.inl ⟨by rfl, ?_⟩) hS ?_
  rotate_left
  · (intro w hSw; (try dsimp only at hSw); go_simp; (try with_reducible rfl))
  try simp only [Act.put, sb, s0, sz]
  refine takeW 16 ⟨some 43, .call { callee := .builtin .len, args := #[.tmp 42], argTypes := #[9] }, 3, "law.go:33", #[⟨15, .data⟩, ⟨13, .guard⟩], some (13, false)⟩ ?_ (.inl ⟨by rfl, ?_⟩) hS ?_
  rotate_left
  · (intro w hSw; (try dsimp only at hSw); go_simp; (try with_reducible rfl))
  try simp only [Act.put, sb, s0, sz]
  refine takeW 17 ⟨some 44, .binOp .leq 3 (.tmp 43) (.const (.int .i64 497)) 3, 4, "law.go:33", #[⟨16, .data⟩, ⟨13, .guard⟩], some (13, false)⟩ ?_ (.inl ⟨by rfl, ?_⟩) hS ?_
  rotate_left
  · (intro w hSw; (try dsimp only at hSw); go_simp; (try with_reducible rfl))
  try simp only [Act.put, sb, s0, sz]
  refine takeW 18 ⟨some 45, .move (.tmp 44), 4, "law.go:33", #[⟨17, .data⟩, ⟨13, .chain⟩, ⟨13, .guard⟩], some (13, false)⟩ ?_ (.inl ⟨by rfl, ?_⟩) hS ?_
  rotate_left
  · (intro w hSw; (try dsimp only at hSw); go_simp; (try with_reducible rfl))
  try simp only [Act.put, sb, s0, sz]
  refine takeW 19 ⟨some 46, .move (.tmp 5), 26, "law.go:33", #[⟨18, .guard⟩], some (18, true)⟩ ?_ (.inl ⟨by rfl, ?_⟩) hS ?_
  rotate_left
  · (intro w hSw; (try dsimp only at hSw); go_simp; (try with_reducible rfl))
  try simp only [Act.put, sb, s0, sz]
  refine takeW 20 ⟨some 47, .convert 26 9 (.tmp 46), 9, "law.go:33", #[⟨19, .data⟩, ⟨18, .guard⟩], some (18, true)⟩ ?_ (.inl ⟨by rfl, ?_⟩) hS ?_
  rotate_left
  · (intro w hSw; (try dsimp only at hSw); go_simp; (try with_reducible rfl))
  try simp only [Act.put, sb, s0, sz]
  refine takeW 21 ⟨some 48, .load 24 (.tmp 2), 24, "law.go:33", #[⟨18, .guard⟩], some (18, true)⟩ ?_ (.inl ⟨by rfl, ?_⟩) hS ?_
  rotate_left
  · (intro w hSw; (try dsimp only at hSw); go_simp; (try with_reducible rfl))
  try simp only [Act.put, sb, s0, sz]
  refine wpAnyH_ready (rs := [22]) (by kernel_rfl) (by simp) ?_
  refine (AllReadyH.cons (o := { dst := some 49, op := Go.Op.call { callee := Go.Callee.value (Go.Operand.func 13), args := #[Go.Operand.tmp 48], argTypes := #[24] }, type := 9, pos := "law.go:33", after := #[{ on := 21, ground := Go.Ground.data }, { on := 18, ground := Go.Ground.chain }, { on := 18, ground := Go.Ground.guard }], guard := some (18, true) }) rfl (fun K hK => ?_) AllReadyH.nil)
  (go_simp; refine (rPut_ok la Hs.out Hlen.out hE.drew).mono ?_; rintro e w4 ⟨v, rfl, rfl, hE4⟩)
  refine hK.out _ _ ⟨(atVm hE4 (by repeat (first | exact List.Mem.head _ | refine List.Mem.tail _ ?_)) (by simp [go_sem]) rfl), (atWm hE4 (by repeat (first | exact List.Mem.head _ | refine List.Mem.tail _ ?_)) Tryd.isAgg24 Tryd.sizeOf24 rfl), (conv_row hE4 0 rfl)⟩ (fun hS => ?_)
  clear hK K
  try simp only [Act.put, sb, s0, sz]
  refine takeW 23 ⟨some 50, .binOp .neq 9 (.tmp 47) (.tmp 49) 9, 4, "law.go:33", #[⟨20, .data⟩, ⟨22, .data⟩, ⟨18, .guard⟩], some (18, true)⟩ ?_ (.inl ⟨by rfl, ?_⟩) hS ?_
  rotate_left
  · (intro w hSw; (try dsimp only at hSw); go_simp; (try with_reducible rfl))
  try simp only [Act.put, sb, s0, sz]
  refine takeW 24 ⟨some 51, .move (.tmp 50), 4, "law.go:33", #[⟨23, .data⟩, ⟨22, .chain⟩, ⟨18, .guard⟩], some (18, true)⟩ ?_ (.inl ⟨by rfl, ?_⟩) hS ?_
  rotate_left
  · (intro w hSw; (try dsimp only at hSw); go_simp; (try with_reducible rfl))
  try simp only [Act.put, sb, s0, sz]
  refine takeW 25 ⟨some 52, .move (.tmp 6), 27, "law.go:33", #[⟨24, .guard⟩], some (24, false)⟩ ?_ (.inl ⟨by rfl, ?_⟩) hS ?_
  rotate_left
  · (intro w hSw; (try dsimp only at hSw); go_simp; (try with_reducible rfl))
  try simp only [Act.put, sb, s0, sz]
  refine takeW 26 ⟨some 53, .binOp .neq 27 (.tmp 52) (.const (.int .i64 0)) 27, 4, "law.go:33", #[⟨25, .data⟩, ⟨24, .guard⟩], some (24, false)⟩ ?_ (.inl ⟨by rfl, ?_⟩) hS ?_
  rotate_left
  · (intro w hSw; (try dsimp only at hSw); go_simp; (try with_reducible rfl))
  try simp only [Act.put, sb, s0, sz]
  refine takeW 27 ⟨some 54, .pick (.tmp 51) (.const (.bool true)) (.tmp 53), 4, "law.go:33", #[⟨24, .data⟩, ⟨26, .data⟩, ⟨18, .guard⟩], some (18, true)⟩ ?_ (.inl ⟨by rfl, ?_⟩) hS ?_
  rotate_left
  · (intro w hSw; (try dsimp only at hSw); go_simp; (try with_reducible rfl))
  try simp only [Act.put, sb, s0, sz]
  refine takeW 28 ⟨some 55, .pick (.tmp 45) (.tmp 54) (.const (.bool false)), 4, "law.go:33", #[⟨18, .data⟩, ⟨27, .data⟩, ⟨13, .guard⟩], some (13, false)⟩ ?_ (.inl ⟨by rfl, ?_⟩) hS ?_
  rotate_left
  · (intro w hSw; (try dsimp only at hSw); go_simp; (try with_reducible rfl))
  try simp only [Act.put, sb, s0, sz]
  refine takeW 29 ⟨some 56, .pick (.tmp 40) (.const (.bool true)) (.tmp 55), 4, "law.go:33", #[⟨13, .data⟩, ⟨28, .data⟩], none⟩ ?_ (.inl ⟨by rfl, ?_⟩) hS ?_
  rotate_left
  · (intro w hSw; (try dsimp only at hSw); go_simp; (try with_reducible rfl))
  try simp only [Act.put, sb, s0, sz]
  refine wpAnyH_done (by kernel_rfl) ?_ _
  have hEr := hE4.tail
  clear hE4
  generalize hwr : w4 = wr at hEr ⊢
  clear hwr

  obtain ⟨e1, e2⟩ := res_same b
  have E1 := SL.hid e1
  have E2 := SL.hid e2
  clear e1 e2
  have hE4 : Ent (pt b1 (.cells #[.int .u64 sq, .bool la, .string ⟨tt.toArray⟩] 24) :: l) wr := hEr
  clear hEr
  have HT : ∀ {l' : List HProp} {w : World} {ao : Option Addr} {c : Nat}, Knows l' Table → Knows l' (reads (.slice ao b.length c) b.length (bvals b)) → Ent l' w → Calls Tryd.prog 14 #[.slice ao b.length c] w (Ret fun v w' => v = .tuple #[shV (resS b), .int .i64 (resSE b)] ∧ Ent l' w') := fun h1 h2 h3 => sTake_any (by have := H2.out; omega) h1 h2 h3
  have HR : ∀ {l : List HProp} {w : World}, Ent l w → Calls Tryd.prog 15 #[.string ⟨b.toArray⟩] w (Ret fun v w' => v = .tuple #[shV (resS b), .int .i64 (resSE b)] ∧ Ent l w') := fun h => by
    have h := rTake_any (b := b) (by have := H2.out; omega) h
    rw [← E1.out, ← E2.out] at h
    exact h
  obtain ⟨z, hz⟩ : ∃ z, resS b = z := ⟨_, rfl⟩
  obtain ⟨z1, z2, z3⟩ := z
  rw [hz] at HT HR
  simp only [shV] at HT HR
  generalize resSE b = er at *
  have hcm : ∀ w, (Op.equalIn 10000 30 (.agg #[.int .u64 z1, .bool z2, .string ⟨z3.toArray⟩]) (.agg #[.int .u64 z1, .bool z2, .string ⟨z3.toArray⟩])).run Tryd.prog w = .ok true w := fun w => by
    have := eqSht ⟨z1, z2, z3⟩ ⟨z1, z2, z3⟩ w
    rw [beq_self_eq_true] at this
    exact this
  go_wp2_with (first
    | go_skip
    | ((with_reducible (show Go.wpList _ _ _ (Go.Oper.mk _ (.convert _ _ _) _ _ _ _ :: _) _ _)); refine wpl_strB hE4 rfl rfl (ys := b) rfl ?_; clear hE4; intro bv cv w5 hE5)
    | (go_at_call 14; refine (HT (ht.cons.cons) (fun _ h => h.views 0 rfl) hE5).mono ?_; clear hE5 HT; rintro e w6 ⟨v, rfl, rfl, hE⟩)
    | ((with_reducible (show Go.wpList _ _ _ (Go.Oper.mk _ (.alloc 30) _ _ _ _ :: _) _ _)); refine wpl_allocN hE rfl rfl (n := 3) zs_sht ?_; clear hE; intro b7 cs w7 hq hE)
    | ((with_reducible (show Go.wpList _ _ _ (Go.Oper.mk _ (.store 30 _ _) _ _ _ _ :: _) _ _)); refine wpl_storeN hE 0 rfl rfl rfl rfl (xs := [.int .u64 z1, .bool z2, .string ⟨z3.toArray⟩]) rfl Tryd.sizeOf30 rfl (by simp [Value.oneCell']) hq ?_; clear hE hq; intro w8 hE; simp only [List.set_cons_zero] at hE)
    | (go_at_call 15; refine (HR hE).mono ?_; clear hE HR; rintro e w9 ⟨v, rfl, rfl, hE⟩)
    | ((with_reducible (show Go.wpList _ _ _ (Go.Oper.mk _ (.alloc 24) _ _ _ _ :: _) _ _)); refine wpl_allocN hE rfl rfl (n := 3) zs_rsht ?_; clear hE; intro b9 cs w10 hq hE)
    | ((with_reducible (show Go.wpList _ _ _ (Go.Oper.mk _ (.store 24 _ _) _ _ _ _ :: _) _ _)); refine wpl_storeN hE 0 rfl rfl rfl rfl (xs := [.int .u64 z1, .bool z2, .string ⟨z3.toArray⟩]) rfl Tryd.sizeOf24 rfl (by simp [Value.oneCell']) hq ?_; clear hE hq; intro w11 hE; simp only [List.set_cons_zero] at hE))
  refine wp_region_held_drew (S := (fun w' => ((Instr.loadAt 30 (.pointer (some ⟨b7, 0, none⟩))).run Tryd.prog w' = .ok (.agg #[.int .u64 z1, .bool z2, .string ⟨z3.toArray⟩]) w') ∧ ((Instr.loadAt 24 (.pointer (some ⟨b9, 0, none⟩))).run Tryd.prog w' = .ok (.agg #[.int .u64 z1, .bool z2, .string ⟨z3.toArray⟩]) w'))) (by kernel_rfl) ⟨(atWm hE.drew (by repeat (first | exact List.Mem.head _ | refine List.Mem.tail _ ?_)) Tryd.isAgg30 Tryd.sizeOf30 rfl), (atWm hE.drew (by repeat (first | exact List.Mem.head _ | refine List.Mem.tail _ ?_)) Tryd.isAgg24 Tryd.sizeOf24 rfl)⟩ (fun hS => ?_)
  refine takeW 0 ⟨some 68, .load 30 (.tmp 7), 30, "law.go:38", #[], none⟩ ?_ (.inl ⟨by rfl, ?_⟩) hS ?_
  rotate_left
  · (intro w hSw; (try dsimp only at hSw); go_simp; (try with_reducible rfl))
  try simp only [Act.put, sb, s0, sz]
  refine takeW 1 ⟨some 69, .load 24 (.tmp 9), 24, "law.go:38", #[], none⟩ ?_ (.inl ⟨by rfl, ?_⟩) hS ?_
  rotate_left
  · (intro w hSw; (try dsimp only at hSw); go_simp; (try with_reducible rfl))
  try simp only [Act.put, sb, s0, sz]
  refine wpAnyH_ready (rs := [2]) (by kernel_rfl) (by simp) ?_
  refine (AllReadyH.cons (o := { dst := some 70, op := Go.Op.call { callee := Go.Callee.value (Go.Operand.func 12), args := #[Go.Operand.tmp 69], argTypes := #[24] }, type := 30, pos := "law.go:38", after := #[{ on := 1, ground := Go.Ground.data }], guard := none }) rfl (fun K hK => ?_) AllReadyH.nil)
  (go_simp; refine (of05_any ⟨z1, z2, z3⟩ hE.drew).mono ?_; rintro e wa ⟨v, rfl, rfl, hEa⟩)
  refine hK.out _ _ ⟨(atWm hEa (by repeat (first | exact List.Mem.head _ | refine List.Mem.tail _ ?_)) Tryd.isAgg30 Tryd.sizeOf30 rfl), (atWm hEa (by repeat (first | exact List.Mem.head _ | refine List.Mem.tail _ ?_)) Tryd.isAgg24 Tryd.sizeOf24 rfl)⟩ (fun hS => ?_)
  clear hK K
  try simp only [Act.put, sb, s0, sz]
  refine takeW 3 ⟨some 71, .binOp .eql 30 (.tmp 68) (.tmp 70) 30, 4, "law.go:38", #[⟨0, .data⟩, ⟨2, .data⟩], none⟩ ?_ (.inl ⟨by rfl, ?_⟩) hS ?_
  rotate_left
  · (intro w hSw; (try dsimp only at hSw); go_simp; (try with_reducible rfl))
  try simp only [Act.put, sb, s0, sz]
  refine takeW 4 ⟨some 72, .move (.tmp 71), 4, "law.go:38", #[⟨3, .data⟩, ⟨2, .chain⟩], none⟩ ?_ (.inl ⟨by rfl, ?_⟩) hS ?_
  rotate_left
  · (intro w hSw; (try dsimp only at hSw); go_simp; (try with_reducible rfl))
  try simp only [Act.put, sb, s0, sz]
  refine takeW 5 ⟨some 73, .move (.tmp 8), 27, "law.go:38", #[⟨4, .guard⟩], some (4, true)⟩ ?_ (.inl ⟨by rfl, ?_⟩) hS ?_
  rotate_left
  · (intro w hSw; (try dsimp only at hSw); go_simp; (try with_reducible rfl))
  try simp only [Act.put, sb, s0, sz]
  refine takeW 6 ⟨some 74, .move (.tmp 10), 27, "law.go:38", #[⟨4, .guard⟩], some (4, true)⟩ ?_ (.inl ⟨by rfl, ?_⟩) hS ?_
  rotate_left
  · (intro w hSw; (try dsimp only at hSw); go_simp; (try with_reducible rfl))
  try simp only [Act.put, sb, s0, sz]
  refine takeW 7 ⟨some 75, .binOp .eql 27 (.tmp 73) (.tmp 74) 27, 4, "law.go:38", #[⟨5, .data⟩, ⟨6, .data⟩, ⟨4, .guard⟩], some (4, true)⟩ ?_ (.inl ⟨by rfl, ?_⟩) hS ?_
  rotate_left
  · (intro w hSw; (try dsimp only at hSw); go_simp; (try with_reducible rfl))
  try simp only [Act.put, sb, s0, sz]
  refine takeW 8 ⟨some 76, .pick (.tmp 72) (.tmp 75) (.const (.bool false)), 4, "law.go:38", #[⟨4, .data⟩, ⟨7, .data⟩], none⟩ ?_ (.inl ⟨by rfl, ?_⟩) hS ?_
  rotate_left
  · (intro w hSw; (try dsimp only at hSw); go_simp; (try with_reducible rfl))
  try simp only [Act.put, sb, s0, sz]
  refine takeW 9 ⟨some 77, .move (.tmp 76), 4, "law.go:38", #[⟨8, .data⟩, ⟨4, .chain⟩], none⟩ ?_ (.inl ⟨by rfl, ?_⟩) hS ?_
  rotate_left
  · (intro w hSw; (try dsimp only at hSw); go_simp; (try with_reducible rfl))
  try simp only [Act.put, sb, s0, sz]
  refine wpAnyH_ready (rs := [10]) (by kernel_rfl) (by simp) ?_
  refine (AllReadyH.cons (o := { dst := some 78, op := Go.Op.call { callee := Go.Callee.value (Go.Operand.func 10), args := #[], argTypes := #[] }, type := 4, pos := "law.go:38", after := #[{ on := 9, ground := Go.Ground.chain }, { on := 9, ground := Go.Ground.guard }], guard := some (9, true) }) rfl (fun K hK => ?_) AllReadyH.nil)
  (go_simp; refine (wakes05_any (ht.cons.cons.cons.cons) hEa).mono ?_; rintro e wb ⟨v, rfl, rfl, hEb⟩)
  refine hK.out _ _ ⟨(atWm hEb (by repeat (first | exact List.Mem.head _ | refine List.Mem.tail _ ?_)) Tryd.isAgg30 Tryd.sizeOf30 rfl), (atWm hEb (by repeat (first | exact List.Mem.head _ | refine List.Mem.tail _ ?_)) Tryd.isAgg24 Tryd.sizeOf24 rfl)⟩ (fun hS => ?_)
  clear hK K
  try simp only [Act.put, sb, s0, sz]
  refine takeW 11 ⟨some 79, .pick (.tmp 77) (.tmp 78) (.const (.bool false)), 4, "law.go:38", #[⟨9, .data⟩, ⟨10, .data⟩], none⟩ ?_ (.inl ⟨by rfl, ?_⟩) hS ?_
  rotate_left
  · (intro w hSw; (try dsimp only at hSw); go_simp; (try with_reducible rfl))
  try simp only [Act.put, sb, s0, sz]
  refine takeW 12 ⟨some 4, .assign (.tmp 79), 4, "law.go:38", #[⟨11, .data⟩, ⟨10, .chain⟩, ⟨0, .phase⟩, ⟨1, .phase⟩, ⟨2, .phase⟩, ⟨3, .phase⟩, ⟨4, .phase⟩, ⟨5, .phase⟩, ⟨6, .phase⟩, ⟨7, .phase⟩, ⟨8, .phase⟩, ⟨9, .phase⟩, ⟨10, .phase⟩, ⟨11, .phase⟩], none⟩ ?_ (.inl ⟨by rfl, ?_⟩) hS ?_
  rotate_left
  · (intro w hSw; (try dsimp only at hSw); go_simp; (try with_reducible rfl))
  try simp only [Act.put, sb, s0, sz]
  refine wpAnyH_done (by kernel_rfl) ?_ _
  go_wp2
  go_ret
  exact ⟨_, rfl, rfl, hEb.tail.tail.tail.tail⟩

theorem SheetPuts_any {s : Sht} (hs : s.seq < 18446744073709551616) (b : List UInt8) {l : List HProp} {w : World} (ht : Knows l Table) (hE : Ent l w) :
    Calls Tryd.prog 3 #[.agg #[.int .u64 s.seq, .bool s.last, .string ⟨s.text.toArray⟩], .string ⟨b.toArray⟩] w (Ret fun v w' => v = .bool true ∧ Ent l w') := by
  by_cases hg : 1000 < s.text.length ∨ 1000 < b.length
  · exact SheetPuts_great hg ht hE
  · by_cases hl : 497 < s.text.length
    · exact SheetPuts_long hs (by omega) (by omega) hl ht hE
    · exact SheetPuts_short hs (by omega) (by omega) (by omega) ht hE
end Go.Proofs.YtdpfigkjkjjedaaDoor
namespace Go.Proofs.YtdpfigkjkjjedaaDoor
open Go.RowKit Go.SL

theorem num13_any (n : Nat) (hn : n < 18446744073709551616) (width : Int) {l : List HProp} {w : World} (hE : Ent l w) :
    Calls Tryd.prog 63 #[.int .i64 width, .int .u64 n] w (Ret fun v w' => v = .string ⟨(numS width n).toArray⟩ ∧ Ent l w') := by
  go_enter Tryd.func63, Tryd.ntmps63
  go_wp2_with (first
    | go_skip
    | (go_at_call 97; have H := Num_any n hn width hE; refine H.mono ?_; clear H hE; rintro e w2 ⟨v, rfl, rfl, hE⟩))
  go_ret
  exact ⟨_, rfl, rfl, hE⟩
theorem num13_w {n w' : Nat} (h : n < 256 ^ w') (hw : wideB w' = true) (h8 : n < 18446744073709551616) {l : List HProp} {w : World} (hE : Ent l w) :
    Calls Tryd.prog 63 #[.int .i64 (w' : Nat), .int .u64 n] w (Ret fun v w2 => v = .string ⟨(be w' n).toArray⟩ ∧ Ent l w2) := by
  have h := num13_any n h8 w' hE
  have e : numS w' n = be w' n := by
    unfold numS
    rw [hw]
    simp
  rw [e] at h
  exact h

set_option maxRecDepth 100000 in
set_option maxHeartbeats 4000000 in
attribute [-go_sem] Instr.loadAt in
theorem rhPut_any {box used sum : Nat} (hb : box < 65536) (hu : used < 65536) (hs : sum < 4294967296) {l : List HProp} {w : World} (hE : Ent l w) :
    Calls Tryd.prog 23 #[.agg #[.int .i64 box, .int .i64 used, .int .u32 sum]] w (Ret fun v w' => v = .string ⟨(hdP box used sum).toArray⟩ ∧ Ent l w') := by
  have hl0 : IntKind.u64.wrap (box : Int) = box := wrapU_id (by omega)
  have hl1 : IntKind.u64.wrap (used : Int) = used := wrapU_id (by omega)
  have hl2 : IntKind.u64.wrap (sum : Int) = sum := wrapU_id (by omega)
  have hN1 : ∀ {l : List HProp} {w : World}, Ent l w → Calls Tryd.prog 63 #[.int .i64 2, .int .u64 box] w (Ret fun v w2 => v = .string ⟨(be 2 box).toArray⟩ ∧ Ent l w2) := fun h => num13_w (w' := 2) (by show box < 65536; omega) rfl (by omega) h
  have hN2 : ∀ {l : List HProp} {w : World}, Ent l w → Calls Tryd.prog 63 #[.int .i64 2, .int .u64 used] w (Ret fun v w2 => v = .string ⟨(be 2 used).toArray⟩ ∧ Ent l w2) := fun h => num13_w (w' := 2) (by show used < 65536; omega) rfl (by omega) h
  have hN3 : ∀ {l : List HProp} {w : World}, Ent l w → Calls Tryd.prog 63 #[.int .i64 4, .int .u64 sum] w (Ret fun v w2 => v = .string ⟨(be 4 sum).toArray⟩ ∧ Ent l w2) := fun h => num13_w (w' := 4) (by show sum < 4294967296; omega) rfl (by omega) h
  have Hall := SL.hid (show box1 ++ be 2 box ++ be 2 used ++ be 4 sum ++ List.replicate 496 0 = hdH box used sum by simp only [hdH, List.append_assoc])
  have Hl1 := SL.hid (be_length 2 box)
  have Hl2 := SL.hid (be_length 2 used)
  have Hl3 := SL.hid (be_length 4 sum)
  generalize be 2 box = x1 at *
  generalize be 2 used = x2 at *
  generalize be 4 sum = x3 at *
  obtain ⟨p1, hp1, hj1, hc1⟩ := cat3 box1 x1 (by have := Hl1.out; simp only [box1, List.length_cons, List.length_nil]; omega)
  have hc1' : ¬ (9223372036854775807 < 4 + x1.length) := by have := Hl1.out; omega
  have q1 : p1.length = 6 := by rw [hp1, List.length_append, Hl1.out]; rfl
  obtain ⟨p2, hp2, hj2, hc2⟩ := cat3 p1 x2 (by have := Hl2.out; omega)
  have q2 : p2.length = 8 := by rw [hp2, List.length_append, Hl2.out, q1]
  obtain ⟨p3, hp3, hj3, hc3⟩ := cat3 p2 x3 (by have := Hl3.out; omega)
  have q3 : p3.length = 12 := by rw [hp3, List.length_append, Hl3.out, q2]
  obtain ⟨zs, hzs⟩ : ∃ zs, List.replicate 496 (0 : UInt8) = zs := ⟨_, rfl⟩
  have Hzl := SL.hid (show zs.length = 496 by rw [← hzs, List.length_replicate])
  obtain ⟨p4, hp4, hj4, hc4⟩ := cat3 p3 zs (by have := Hzl.out; omega)
  have Hp4 := SL.hid (show p4 = hdH box used sum by rw [hp4, hp3, hp2, hp1, ← hzs]; exact Hall.out)
  have Hzs := SL.hid hzs
  have q4 : p4.length = 508 := by rw [hp4, List.length_append, Hzl.out, q3]
  have hcs : crcV p4 < 4294967296 := by unfold crcV; omega
  have hl4 : IntKind.u64.wrap (crcV p4 : Int) = crcV p4 := wrapU_id (by omega)
  have hN4 : ∀ {l : List HProp} {w : World}, Ent l w → Calls Tryd.prog 63 #[.int .i64 4, .int .u64 (crcV p4)] w (Ret fun v w2 => v = .string ⟨(be 4 (crcV p4)).toArray⟩ ∧ Ent l w2) := fun h => num13_w (w' := 4) (by show crcV p4 < 4294967296; omega) rfl (by omega) h
  have Hl5 := SL.hid (be_length 4 (crcV p4))
  obtain ⟨p5, hp5, hj5, hc5⟩ := cat3 p4 (be 4 (crcV p4)) (by have := Hl5.out; omega)
  have Hp5 := SL.hid (show p5 = hdP box used sum by rw [hp5, Hp4.out]; rfl)
  have Q4 := SL.hid q4
  have hq3 : IntKind.i64.wrap (508 - (p3.length : Int)) = 496 := by rw [q3]; decide
  have hq3' : (508 : Int) - (p3.length : Int) = 496 := by omega
  generalize be 4 (crcV p4) = x5 at *
  clear hp1 hp2 hp3 hp4 hp5 Hall Hl1 Hl2 Hl3 hzs q1 q2 q4
  have hj1' := hj1
  simp only [box1] at hj1'
  clear hc1
  go_enter Tryd.func23, Tryd.ntmps23
  go_wp2_with (first
    | go_skip
    | ((with_reducible (show Go.wpList _ _ _ (Go.Oper.mk _ (.box _ _) _ _ _ _ :: _) _ _)); refine wpl_box hE rfl rfl rfl ?_; clear hE; intro b1 w hE; simp only [Act.eval, Act.put, List.setIfInBounds_toArray, List.set_cons_zero, List.set_cons_succ, getD_lit, List.getD_cons_succ, List.getD_cons_zero, Value.cells] at hE)
    | ((with_reducible (show Go.wpList _ _ _ (Go.Oper.mk _ (.load _ _) _ _ _ _ :: _) _ _)); first | (refine wpl_load1 hE 0 rfl rfl rfl rfl (by simp [go_sem]) rfl ?_) | (refine wpl_load1 hE 1 rfl rfl rfl rfl (by simp [go_sem]) rfl ?_) | (refine wpl_load1 hE 2 rfl rfl rfl rfl (by simp [go_sem]) rfl ?_) | (refine wpl_load1 hE 3 rfl rfl rfl rfl (by simp [go_sem]) rfl ?_) | (refine wpl_load1 hE 4 rfl rfl rfl rfl (by simp [go_sem]) rfl ?_) | (refine wpl_load1 hE 5 rfl rfl rfl rfl (by simp [go_sem]) rfl ?_)))
  refine wp_region_held_drew (S := (fun w' => ((Instr.loadAt 3 (.pointer (some ⟨b1, 0, none⟩))).run Tryd.prog w' = .ok (.int .i64 box) w') ∧ ((Instr.loadAt 3 (.pointer (some ⟨b1, 1, none⟩))).run Tryd.prog w' = .ok (.int .i64 used) w') ∧ ((Instr.loadAt 47 (.pointer (some ⟨b1, 2, none⟩))).run Tryd.prog w' = .ok (.int .u32 sum) w'))) (by kernel_rfl) ⟨(atVm hE.drew (by repeat (first | exact List.Mem.head _ | refine List.Mem.tail _ ?_)) (by simp [go_sem]) rfl), (atVm hE.drew (by repeat (first | exact List.Mem.head _ | refine List.Mem.tail _ ?_)) (by simp [go_sem]) rfl), (atVm hE.drew (by repeat (first | exact List.Mem.head _ | refine List.Mem.tail _ ?_)) (by simp [go_sem]) rfl)⟩ (fun hS => ?_)
  refine takeW 0 ⟨some 4, .fieldAddr 53 (.tmp 1) 0, 0, "ref.go:57", #[], none⟩ ?_ (.inl ⟨by rfl, ?_⟩) hS ?_
  rotate_left
  · (intro w hSw; (try dsimp only at hSw); go_simp; (try with_reducible rfl))
  try simp only [Act.put, sb, s0, sz]
  refine takeW 1 ⟨some 5, .load 3 (.tmp 4), 3, "ref.go:57", #[⟨0, .data⟩], none⟩ ?_ (.inl ⟨by rfl, ?_⟩) hS ?_
  rotate_left
  · (intro w hSw; (try dsimp only at hSw); go_simp; (try with_reducible rfl))
  try simp only [Act.put, sb, s0, sz]
  refine takeW 2 ⟨some 6, .convert 3 22 (.tmp 5), 22, "ref.go:57", #[⟨1, .data⟩], none⟩ ?_ (.inl ⟨by rfl, ?_⟩) hS ?_
  rotate_left
  · (intro w hSw; (try dsimp only at hSw); go_simp; (try with_reducible rfl))
  try simp only [Act.put, sb, s0, sz]
  refine takeW 5 ⟨some 9, .fieldAddr 53 (.tmp 1) 1, 0, "ref.go:57", #[], none⟩ ?_ (.inl ⟨by rfl, ?_⟩) hS ?_
  rotate_left
  · (intro w hSw; (try dsimp only at hSw); go_simp; (try with_reducible rfl))
  try simp only [Act.put, sb, s0, sz]
  refine takeW 6 ⟨some 10, .load 3 (.tmp 9), 3, "ref.go:57", #[⟨5, .data⟩], none⟩ ?_ (.inl ⟨by rfl, ?_⟩) hS ?_
  rotate_left
  · (intro w hSw; (try dsimp only at hSw); go_simp; (try with_reducible rfl))
  try simp only [Act.put, sb, s0, sz]
  refine takeW 7 ⟨some 11, .convert 3 22 (.tmp 10), 22, "ref.go:57", #[⟨6, .data⟩], none⟩ ?_ (.inl ⟨by rfl, ?_⟩) hS ?_
  rotate_left
  · (intro w hSw; (try dsimp only at hSw); go_simp; (try with_reducible rfl))
  try simp only [Act.put, sb, s0, sz]
  refine takeW 10 ⟨some 14, .fieldAddr 53 (.tmp 1) 2, 0, "ref.go:57", #[], none⟩ ?_ (.inl ⟨by rfl, ?_⟩) hS ?_
  rotate_left
  · (intro w hSw; (try dsimp only at hSw); go_simp; (try with_reducible rfl))
  try simp only [Act.put, sb, s0, sz]
  refine takeW 11 ⟨some 15, .load 47 (.tmp 14), 47, "ref.go:57", #[⟨10, .data⟩], none⟩ ?_ (.inl ⟨by rfl, ?_⟩) hS ?_
  rotate_left
  · (intro w hSw; (try dsimp only at hSw); go_simp; (try with_reducible rfl))
  try simp only [Act.put, sb, s0, sz]
  refine takeW 12 ⟨some 16, .convert 47 22 (.tmp 15), 22, "ref.go:57", #[⟨11, .data⟩], none⟩ ?_ (.inl ⟨by rfl, ?_⟩) hS ?_
  rotate_left
  · (intro w hSw; (try dsimp only at hSw); go_simp; (try with_reducible rfl))
  try simp only [Act.put, sb, s0, sz]
  refine wpAnyH_ready (rs := [3]) (by kernel_rfl) (by simp) ?_
  refine (AllReadyH.cons (o := { dst := some 7, op := Go.Op.call { callee := Go.Callee.value (Go.Operand.func 63), args := #[Go.Operand.const (Go.Value.int Go.IntKind.i64 2), Go.Operand.tmp 6], argTypes := #[3, 22] }, type := 9, pos := "ref.go:57", after := #[{ on := 2, ground := Go.Ground.data }], guard := none }) rfl (fun K hK => ?_) AllReadyH.nil)
  (go_simp; refine (hN1 hE.drew).mono ?_; rintro e w3 ⟨v, rfl, rfl, hE3⟩)
  refine hK.out _ _ ⟨(atVm hE3 (by repeat (first | exact List.Mem.head _ | refine List.Mem.tail _ ?_)) (by simp [go_sem]) rfl), (atVm hE3 (by repeat (first | exact List.Mem.head _ | refine List.Mem.tail _ ?_)) (by simp [go_sem]) rfl), (atVm hE3 (by repeat (first | exact List.Mem.head _ | refine List.Mem.tail _ ?_)) (by simp [go_sem]) rfl)⟩ (fun hS => ?_)
  clear hK K
  try simp only [Act.put, sb, s0, sz]
  refine takeW 4 ⟨some 8, .binOp .add 9 (.const (.string { data := #[66, 79, 88, 49] })) (.tmp 7) 9, 9, "ref.go:57", #[⟨3, .data⟩], none⟩ ?_ (.inl ⟨by rfl, ?_⟩) hS ?_
  rotate_left
  · (intro w hSw; (try dsimp only at hSw); go_simp; (try with_reducible rfl))
  try simp only [Act.put, sb, s0, sz]
  refine wpAnyH_ready (rs := [8]) (by kernel_rfl) (by simp) ?_
  refine (AllReadyH.cons (o := { dst := some 12, op := Go.Op.call { callee := Go.Callee.value (Go.Operand.func 63), args := #[Go.Operand.const (Go.Value.int Go.IntKind.i64 2), Go.Operand.tmp 11], argTypes := #[3, 22] }, type := 9, pos := "ref.go:57", after := #[{ on := 7, ground := Go.Ground.data }, { on := 3, ground := Go.Ground.chain }], guard := none }) rfl (fun K hK => ?_) AllReadyH.nil)
  (go_simp; refine (hN2 hE3).mono ?_; rintro e w4 ⟨v, rfl, rfl, hE4⟩)
  refine hK.out _ _ ⟨(atVm hE4 (by repeat (first | exact List.Mem.head _ | refine List.Mem.tail _ ?_)) (by simp [go_sem]) rfl), (atVm hE4 (by repeat (first | exact List.Mem.head _ | refine List.Mem.tail _ ?_)) (by simp [go_sem]) rfl), (atVm hE4 (by repeat (first | exact List.Mem.head _ | refine List.Mem.tail _ ?_)) (by simp [go_sem]) rfl)⟩ (fun hS => ?_)
  clear hK K
  try simp only [Act.put, sb, s0, sz]
  refine takeW 9 ⟨some 13, .binOp .add 9 (.tmp 8) (.tmp 12) 9, 9, "ref.go:57", #[⟨4, .data⟩, ⟨8, .data⟩], none⟩ ?_ (.inl ⟨by rfl, ?_⟩) hS ?_
  rotate_left
  · (intro w hSw; (try dsimp only at hSw); go_simp; (try with_reducible rfl))
  try simp only [Act.put, sb, s0, sz]
  refine wpAnyH_ready (rs := [13]) (by kernel_rfl) (by simp) ?_
  refine (AllReadyH.cons (o := { dst := some 17, op := Go.Op.call { callee := Go.Callee.value (Go.Operand.func 63), args := #[Go.Operand.const (Go.Value.int Go.IntKind.i64 4), Go.Operand.tmp 16], argTypes := #[3, 22] }, type := 9, pos := "ref.go:57", after := #[{ on := 12, ground := Go.Ground.data }, { on := 8, ground := Go.Ground.chain }], guard := none }) rfl (fun K hK => ?_) AllReadyH.nil)
  (go_simp; refine (hN3 hE4).mono ?_; rintro e w5 ⟨v, rfl, rfl, hE5⟩)
  refine hK.out _ _ ⟨(atVm hE5 (by repeat (first | exact List.Mem.head _ | refine List.Mem.tail _ ?_)) (by simp [go_sem]) rfl), (atVm hE5 (by repeat (first | exact List.Mem.head _ | refine List.Mem.tail _ ?_)) (by simp [go_sem]) rfl), (atVm hE5 (by repeat (first | exact List.Mem.head _ | refine List.Mem.tail _ ?_)) (by simp [go_sem]) rfl)⟩ (fun hS => ?_)
  clear hK K
  try simp only [Act.put, sb, s0, sz]
  refine takeW 14 ⟨some 18, .binOp .add 9 (.tmp 13) (.tmp 17) 9, 9, "ref.go:57", #[⟨9, .data⟩, ⟨13, .data⟩], none⟩ ?_ (.inl ⟨by rfl, ?_⟩) hS ?_
  rotate_left
  · (intro w hSw; (try dsimp only at hSw); go_simp; (try with_reducible rfl))
  try simp only [Act.put, sb, s0, sz]
  refine takeW 15 ⟨some 3, .assign (.tmp 18), 9, "ref.go:57", #[⟨14, .data⟩, ⟨13, .chain⟩, ⟨0, .phase⟩, ⟨1, .phase⟩, ⟨2, .phase⟩, ⟨3, .phase⟩, ⟨4, .phase⟩, ⟨5, .phase⟩, ⟨6, .phase⟩, ⟨7, .phase⟩, ⟨8, .phase⟩, ⟨9, .phase⟩, ⟨10, .phase⟩, ⟨11, .phase⟩, ⟨12, .phase⟩, ⟨13, .phase⟩, ⟨14, .phase⟩], none⟩ ?_ (.inl ⟨by rfl, ?_⟩) hS ?_
  rotate_left
  · (intro w hSw; (try dsimp only at hSw); go_simp; (try with_reducible rfl))
  try simp only [Act.put, sb, s0, sz]
  refine wpAnyH_done (by kernel_rfl) ?_ _
  clear hE hE3 hE4
  go_wp2_with (first
    | go_skip
    | ((with_reducible (show Go.wpList _ _ _ (Go.Oper.mk _ (.makeSlice _ _ _) _ _ _ _ :: _) _ _)); refine wpl_makeB hE5 rfl rfl 496 (by omega) rfl rfl ?_; clear hE5; intro g w9 ys hys hyl hE; (have e : ys = zs := by rw [hys, Hzs.out]); subst e; clear hys hyl)
    | ((with_reducible (show Go.wpList _ _ _ (Go.Oper.mk _ (.convert _ _ _) _ _ _ _ :: _) _ _)); refine wpl_bytesStr (bs := ys) rfl rfl rfl Tryd.underlying26 Tryd.underlying5 Tryd.underlying9 (n := 496) (by have h := reads_row hE 0 rfl; rw [Hzl.out] at h; exact h) Hzl.out.symm ?_)
    | (go_at_call 22; refine (refSum_any p4 _ (by have := Q4.out; omega)).mono ?_; rintro e w2 ⟨rfl, rfl⟩)
    | (go_at_call 63; refine (hN4 hE).mono ?_; rintro e w3 ⟨v, rfl, rfl, hE6⟩))
  go_ret
  exact ⟨_, rfl, by rw [← Hp5.out]; rfl, hE6.tail.tail⟩
end Go.Proofs.YtdpfigkjkjjedaaDoor
