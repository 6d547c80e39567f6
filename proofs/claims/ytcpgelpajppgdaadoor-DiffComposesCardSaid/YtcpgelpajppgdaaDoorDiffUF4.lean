/-
  Law 20's own functions: Great, Row (of the same row), split.
-/
import Derived.Test.YtcpgelpajppgdaaDoorDiffUF3
import Derived.Deep.RegionHeld
namespace Go.Proofs.YtcpgelpajppgdaaDoor
open Go.RowKit Go.SL

theorem eqEn (x : En) (w : World) : (Op.equalIn 10000 63 (.agg #[.string ⟨x.path.toArray⟩, .bool x.dir, .string ⟨x.data.toArray⟩]) (.agg #[.string ⟨x.path.toArray⟩, .bool x.dir, .string ⟨x.data.toArray⟩])).run Tryd.prog w = .ok true w := by
  have h := run_equalIn_agg (P := Tryd.prog) (w := w) 9999 63 #[.string ⟨x.path.toArray⟩, .bool x.dir, .string ⟨x.data.toArray⟩] #[.string ⟨x.path.toArray⟩, .bool x.dir, .string ⟨x.data.toArray⟩] (by kernel_rfl) (by kernel_rfl)
  refine h.trans ?_
  simp [go_sem]
/-- an entry of a row, read whole and in part -/
theorem load_en {b off c : Nat} {xs : List En} {w : World} (hr : reads (.slice (some ⟨b, off, none⟩) xs.length c) xs.length (xs.flatMap enC) w) {k : Nat} (hk : k < xs.length) :
    (Instr.loadAt 63 (.pointer (some ⟨b, off + k * 3, none⟩))).run Tryd.prog w = .ok (.agg #[.string ⟨xs[k].path.toArray⟩, .bool xs[k].dir, .string ⟨xs[k].data.toArray⟩]) w ∧
    (Instr.loadAt 9 (.pointer (some ⟨b, off + k * 3, none⟩))).run Tryd.prog w = .ok (.string ⟨xs[k].path.toArray⟩) w ∧
    (Instr.loadAt 4 (.pointer (some ⟨b, off + k * 3 + 1, none⟩))).run Tryd.prog w = .ok (.bool xs[k].dir) w ∧
    (Instr.loadAt 9 (.pointer (some ⟨b, off + k * 3 + 2, none⟩))).run Tryd.prog w = .ok (.string ⟨xs[k].data.toArray⟩) w := by
  obtain ⟨b', off', e, h⟩ := en_at hr hk
  cases e
  exact ⟨atCells Tryd.isAgg63 Tryd.sizeOf63 (enC xs[k]) rfl (fun j v hv => by rw [Addr.add_lit]; exact h j v hv), atCell (h 0 _ rfl) (by simp [go_sem]), atCell (h 1 _ rfl) (by simp [go_sem]), atCell (h 2 _ rfl) (by simp [go_sem])⟩
def GrRel (es : List En) (l : List HProp) (i : Value) (wr : World) : Prop :=
  ∃ k : Nat, k ≤ es.length ∧ i = .int .i64 k ∧ (∀ x ∈ es.take k, x.path.length ≤ 200 ∧ x.data.length ≤ 9000) ∧ Ent l wr
/-- is a row of entries too great for the law? -/
def great (es : List En) : Bool := decide (100 < es.length) || es.any fun x => decide (200 < x.path.length) || decide (9000 < x.data.length)
theorem great_not {es : List En} : great es = false ↔ es.length ≤ 100 ∧ ∀ x ∈ es, x.path.length ≤ 200 ∧ x.data.length ≤ 9000 := by
  simp only [great, Bool.or_eq_false_iff, decide_eq_false_iff_not, List.any_eq_false, Nat.not_lt, Bool.not_eq_true]
def GrPost (es : List En) (l : List HProp) (v : Value) (w' : World) : Prop := v = .bool (great es) ∧ Ent l w'
theorem GrPost.mk {es : List En} {l : List HProp} {w' : World} (b : Bool) (h : Ent l w') (h2 : great es = b) : GrPost es l (.bool b) w' := ⟨by rw [h2], h⟩
set_option maxRecDepth 100000 in
set_option maxHeartbeats 2000000 in
attribute [-go_sem] Instr.loadAt in
theorem Great_any {es : List En} {ao : Option Addr} {c : Nat} {l : List HProp} {w : World} (hk : Knows l (reads (.slice ao es.length c) es.length (es.flatMap enC))) (hE : Ent l w) :
    Calls Tryd.prog 28 #[.slice ao es.length c] w (Ret (GrPost es l)) := by
  cases h100 : decide ((100 : Int) < (es.length : Int)) with
  | true =>
    go_enter Tryd.func28, Tryd.ntmps28
    go_wp2
    refine bodyPost_ret (results_tmp rfl _ _ _) rfl ?_
    exact ⟨_, rfl, .mk true hE (by have := of_decide_eq_true h100; rw [great, decide_eq_true (by omega)]; rfl)⟩
  | false =>
    have hle : es.length ≤ 100 := by have := of_decide_eq_false h100; omega
    have Hle := SL.hid hle
    go_enter Tryd.func28, Tryd.ntmps28
    go_wp2
    clear h100
    go_loopw [3] (fun i wr => GrRel es l i wr) (fun i _ => es.length - (intOf i).toNat)
    case atStart => exact ⟨0, Nat.zero_le _, rfl, by simp, hE⟩
    case round =>
      clear hE
      obtain ⟨k, hkn, rfl, hin, hE⟩ := hrel
      have Hin := SL.hid hin
      clear hin
      by_cases hlt : k < es.length
      · obtain ⟨b, off, rfl, hz⟩ := en_at (hk _ hE) hlt
        clear hz
        have htk := SL.hid (List.take_succ_eq_append_getElem hlt)
        obtain ⟨hl0, hl1, hl2, hl3⟩ := load_en (hk _ hE) hlt
        clear hl0 hl2
        have Hmem := SL.hid (List.getElem_mem hlt)
        generalize es[k] = x at *
        obtain ⟨xp, xd, xb⟩ := x
        cases hp : decide ((200 : Int) < (xp.length : Int)) with
        | true =>
          go_wp2
          refine bodyPost_ret (results_tmp rfl _ _ _) rfl ?_
          exact ⟨_, rfl, .mk true hE (eq_true_of_ne_false fun h => by have := (great_not.1 h).2 _ Hmem.out; have := of_decide_eq_true hp; simp only at *; omega)⟩
        | false =>
          cases hd : decide ((9000 : Int) < (xb.length : Int)) with
          | true =>
            go_wp2
            refine bodyPost_ret (results_tmp rfl _ _ _) rfl ?_
            exact ⟨_, rfl, .mk true hE (eq_true_of_ne_false fun h => by have := (great_not.1 h).2 _ Hmem.out; have := of_decide_eq_true hd; simp only at *; omega)⟩
          | false =>
            go_wp2
            go_roundw
            case rel =>
              refine ⟨k + 1, hlt, by simp, ?_, hE⟩
              rw [htk.out]
              intro y hy
              rcases List.mem_append.1 hy with h | h
              · exact Hin.out y h
              · rw [List.mem_singleton.1 h]
                have := of_decide_eq_false hp
                have := of_decide_eq_false hd
                exact ⟨by simp only; omega, by simp only; omega⟩
            case measure => simp [intOf]; omega
      · obtain rfl : k = es.length := by omega
        go_wp2
        refine bodyPost_ret (results_tmp rfl _ _ _) rfl ?_
        exact ⟨_, rfl, .mk false hE (great_not.2 ⟨Hle.out, by have := Hin.out; rwa [List.take_length] at this⟩)⟩
set_option maxRecDepth 100000 in
set_option maxHeartbeats 2000000 in
attribute [-go_sem] Instr.loadAt Go.run_equalIn_agg in
theorem Row_same {es : List En} (hn : es.length ≤ 1000000) {ao bo : Option Addr} {c d : Nat} {l : List HProp} {w : World} (hk : Knows l (reads (.slice ao es.length c) es.length (es.flatMap enC))) (hk2 : Knows l (reads (.slice bo es.length d) es.length (es.flatMap enC))) (hE : Ent l w) :
    Calls Tryd.prog 22 #[.slice ao es.length c, .slice bo es.length d] w (Ret fun v w' => v = .bool true ∧ Ent l w') := by
  go_enter Tryd.func22, Tryd.ntmps22
  go_wp2
  go_loopw [5] (fun i wr => CntRel es.length l i wr) (fun i _ => es.length - (intOf i).toNat)
  case atStart => exact ⟨0, Nat.zero_le _, rfl, hE⟩
  case round =>
    clear hE
    obtain ⟨k, hkl, rfl, hE⟩ := hrel
    by_cases hlt : k < es.length
    · obtain ⟨b1, o1, rfl, hz⟩ := en_at (hk _ hE) hlt
      obtain ⟨b2, o2, rfl, hz2⟩ := en_at (hk2 _ hE) hlt
      clear hz hz2
      have f1 := SL.hid (show ∀ w, Ent l w → _ from fun w h => (load_en (hk w h) hlt).1)
      have f2 := SL.hid (show ∀ w, Ent l w → _ from fun w h => (load_en (hk2 w h) hlt).1)
      have hcm := fun w => eqEn es[k] w
      generalize es[k] = x at f1 f2 hcm
      obtain ⟨x1, x2, x3⟩ := x
      go_wp2
      refine wp_region_held_drew (S := (fun w' => ((Instr.loadAt 63 (.pointer (some ⟨b1, o1 + k * 3, none⟩))).run Tryd.prog w' = .ok (.agg #[.string ⟨x1.toArray⟩, .bool x2, .string ⟨x3.toArray⟩]) w') ∧ ((Instr.loadAt 63 (.pointer (some ⟨b2, o2 + k * 3, none⟩))).run Tryd.prog w' = .ok (.agg #[.string ⟨x1.toArray⟩, .bool x2, .string ⟨x3.toArray⟩]) w'))) (by kernel_rfl) ⟨(f1.out _ hE.drew), (f2.out _ hE.drew)⟩ (fun hS => ?_)
      refine tV 0 ⟨some 17, .move (.tmp 0), _, _, _, none⟩ hS ?_
      refine tV 1 ⟨some 18, .move (.tmp 5), _, _, _, none⟩ hS ?_
      refine tV 2 ⟨some 19, .indexAddr 22 (.tmp 17) (.tmp 18), _, _, _, none⟩ hS ?_
      refine tL 3 ⟨some 20, .load 63 (.tmp 19), _, _, _, none⟩ hS ?_
      refine tV 4 ⟨some 21, .move (.tmp 1), _, _, _, none⟩ hS ?_
      refine tV 5 ⟨some 22, .move (.tmp 5), _, _, _, none⟩ hS ?_
      refine tV 6 ⟨some 23, .indexAddr 22 (.tmp 21) (.tmp 22), _, _, _, none⟩ hS ?_
      refine tL 7 ⟨some 24, .load 63 (.tmp 23), _, _, _, none⟩ hS ?_
      refine tV 8 ⟨some 25, .binOp .neq 63 (.tmp 20) (.tmp 24) 63, _, _, _, none⟩ hS ?_
      refine wpAnyH_done (by kernel_rfl) ?_ _
      go_wp2
      go_roundw
      case rel => exact ⟨k + 1, hlt, by first | rfl | simp, hE.drew⟩
      case measure => simp [intOf] <;> omega
    · obtain rfl : k = es.length := by omega
      go_wp2
      go_ret
      exact ⟨_, rfl, rfl, hE⟩
end Go.Proofs.YtcpgelpajppgdaaDoor
namespace Go.Proofs.YtcpgelpajppgdaaDoor
open Go.RowKit Go.SL

def chC (c : Ch) : List Value := [.string ⟨c.path.toArray⟩, .bool c.was.there, .bool c.was.dir, .string ⟨c.was.data.toArray⟩, .bool c.now.there, .bool c.now.dir, .string ⟨c.now.data.toArray⟩]
theorem chC_len (c : Ch) : (chC c).length = 7 := rfl
theorem chC_one (c : Ch) : ∀ u ∈ chC c, u.oneCell' = true := by simp [chC, Value.oneCell']
theorem chC_flat_len (xs : List Ch) : (xs.flatMap chC).length = xs.length * 7 := flatMap_len chC 7 chC_len xs
/-- where a change of a row lies -/
theorem ch_at {w : World} {ao : Option Addr} {c : Nat} {xs : List Ch} (hr : reads (.slice ao xs.length c) xs.length (xs.flatMap chC) w) {k : Nat} (hk : k < xs.length) : ∃ b off, ao = some ⟨b, off, none⟩ ∧ ∀ j v, (chC xs[k])[j]? = some v → w.cell? ⟨b, off + k * 7 + j, none⟩ = some v := by
  obtain ⟨b, off, rfl, hc⟩ := reads_form hr (by omega) (by rw [chC_flat_len]; omega)
  refine ⟨b, off, rfl, fun j v hv => ?_⟩
  rw [Nat.add_assoc]
  exact hc _ _ (flatMap_at chC 7 chC_len xs k j xs[k] v (List.getElem?_eq_getElem hk) hv)
def findI (l : List Ch) (p : List UInt8) : Int := match l.findIdx? (fun c => c.path == p) with
  | some i => (i : Int)
  | none => -1
theorem findI_at {l : List Ch} {p : List UInt8} {k : Nat} (hk : k < l.length) (h : ∀ (j : Nat) (hj : j < l.length), j < k → l[j].path ≠ p) (he : l[k].path = p) : findI l p = k := by
  have : l.findIdx? (fun c => c.path == p) = some k := by
    rw [List.findIdx?_eq_some_iff_getElem]
    exact ⟨hk, by simpa using he, fun j hj => by simpa using h j (by omega) hj⟩
  rw [findI, this]
theorem findI_none {l : List Ch} {p : List UInt8} (h : ∀ (j : Nat) (hj : j < l.length), j < l.length → l[j].path ≠ p) : findI l p = -1 := by
  have : l.findIdx? (fun c => c.path == p) = none := by
    rw [List.findIdx?_eq_none_iff]
    intro x hx
    obtain ⟨j, hj, rfl⟩ := List.getElem_of_mem hx
    simpa using h j hj hj
  rw [findI, this]
def FdRel (es : List Ch) (p : List UInt8) (l : List HProp) (i : Value) (wr : World) : Prop := ∃ k : Nat, k ≤ es.length ∧ i = .int .i64 k ∧ (∀ (j : Nat) (hj : j < es.length), j < k → es[j].path ≠ p) ∧ Ent l wr
set_option maxRecDepth 100000 in
set_option maxHeartbeats 2000000 in
theorem rfind_any {es : List Ch} {p : List UInt8} (hn : es.length ≤ 1000000) {ao : Option Addr} {c : Nat} {l : List HProp} {w : World} (hk : Knows l (reads (.slice ao es.length c) es.length (es.flatMap chC))) (hE : Ent l w) :
    Calls Tryd.prog 48 #[.slice ao es.length c, .string ⟨p.toArray⟩] w (Ret fun v w' => v = .int .i64 (findI es p) ∧ Ent l w') := by
  go_enter Tryd.func48, Tryd.ntmps48
  go_wp2
  go_loopw [5] (fun i wr => FdRel es p l i wr) (fun i _ => es.length - (intOf i).toNat)
  case atStart => exact ⟨0, Nat.zero_le _, rfl, fun j _ h => absurd h (Nat.not_lt_zero j), hE⟩
  case round =>
    clear hE
    obtain ⟨k, hkl, rfl, hin, hE⟩ := hrel
    have Hin := SL.hid hin
    clear hin
    by_cases hlt : k < es.length
    · obtain ⟨b, off, rfl, hz⟩ := ch_at (hk _ hE) hlt
      have h0 : wr.cell? ⟨b, off + k * 7, none⟩ = some (.string ⟨es[k].path.toArray⟩) := hz 0 _ rfl
      clear hz
      have Hx := SL.hid (show ∀ x, es[k].path = x → es[k].path = x from fun _ h => h)
      obtain ⟨x, hx⟩ : ∃ x, es[k].path = x := ⟨_, rfl⟩
      have HX := SL.hid hx
      rw [hx] at h0
      clear hx Hx
      cases he : (x == p) with
      | true =>
        have R := SL.hid (findI_at hlt Hin.out (by rw [HX.out]; simpa using he))
        go_wp2
        go_ret
        exact ⟨_, rfl, by rw [R.out]; rfl, hE⟩
      | false =>
        have Hne := SL.hid (show x ≠ p by simpa using he)
        go_wp2
        go_roundw
        case rel =>
          refine ⟨k + 1, hlt, by first | rfl | simp, fun j hj hjk => ?_, hE⟩
          rcases Nat.lt_or_eq_of_le (Nat.le_of_lt_succ hjk) with h | rfl
          · exact Hin.out j hj h
          · rw [HX.out]; exact Hne.out
        case measure => simp [intOf] <;> omega
    · obtain rfl : k = es.length := by omega
      have R := SL.hid (findI_none Hin.out)
      go_wp2
      go_ret
      exact ⟨_, rfl, by rw [R.out]; rfl, hE⟩
end Go.Proofs.YtcpgelpajppgdaaDoor
namespace Go.Proofs.YtcpgelpajppgdaaDoor
open Go.RowKit Go.SL

def pathsRel (es : List En) (l : List HProp) (o i : Value) (wr : World) : Prop :=
  ∃ (k : Nat) (ao : Option Addr) (c : Nat) (pre : List (List UInt8)), k ≤ es.length ∧ i = .int .i64 k ∧ pre = (es.take k).map En.path ∧ o = .slice ao pre.length c ∧ Ent (rowS ao c pre :: l) wr
set_option maxRecDepth 100000 in
set_option maxHeartbeats 2000000 in
theorem paths_any {es : List En} (hn : es.length ≤ 1000000) {ao : Option Addr} {c : Nat} {l : List HProp} {w : World} (hk : Knows l (reads (.slice ao es.length c) es.length (es.flatMap enC))) (hE : Ent l w) :
    Calls Tryd.prog 35 #[.slice ao es.length c] w (Ret fun v w' => ∃ ao' c', v = .slice ao' (es.map En.path).length c' ∧ Ent (rowS ao' c' (es.map En.path) :: l) w') := by
  go_enter Tryd.func35, Tryd.ntmps35
  go_wp2
  go_loopw [3, 4] (fun o i wr => pathsRel es l o i wr) (fun _ i _ => es.length - (intOf i).toNat)
  case atStart => exact ⟨0, none, 0, [], Nat.zero_le _, rfl, rfl, rfl, hE.nil _ _⟩
  case round =>
    clear hE
    obtain ⟨k, a1, c1, pre, hkl, rfl, hpre, rfl, hE⟩ := hrel
    have hpl : pre.length ≤ 1000000 := by rw [hpre, List.length_map, List.length_take]; omega
    by_cases hlt : k < es.length
    · obtain ⟨b, off, rfl, hz⟩ := en_at (hk _ hE.tail) hlt
      have h0 : wr.cell? ⟨b, off + k * 3, none⟩ = some (.string ⟨es[k].path.toArray⟩) := hz 0 _ rfl
      clear hz
      have Hst := SL.hid (show (es.take (k + 1)).map En.path = pre ++ [es[k].path] by rw [List.take_succ_eq_append_getElem hlt, List.map_append, ← hpre]; rfl)
      clear hpre
      generalize es[k].path = x at *
      go_wp2_with (first
        | go_skip
        | ((with_reducible (show Go.wpList _ _ _ (Go.Oper.mk _ (.call { callee := .builtin .append, args := _, argTypes := _ }) _ _ _ _ :: _) _ _)); have hE9 := hE.alloc (.cells #[.string ⟨x.toArray⟩] 9); refine wpl_appendG hE9 1 rfl rfl rfl rfl rfl Tryd.underlying75 info_str (by decide) (m := 1) (news := [strv x]) (reads_pt hE9 0 rfl (off := 0) (fun j u hu => by rw [Nat.zero_add, List.getElem?_toArray]; exact hu)) rfl (by simp [strv, Value.oneCell']) (by omega) (by omega) ?_; clear hE9 hE; intro ao' c' w6 hE10; simp only [List.set_cons_zero, List.set_cons_succ] at hE10))
      go_roundw
      case measure => simp [intOf] <;> omega
      case rel =>
        have hF := hE10.tail
        have e1 : (pre ++ [x]).length = pre.length + 1 := by simp
        have e2 : (pre ++ [x]).map strv = pre.map strv ++ [strv x] := by simp
        exact ⟨k + 1, ao', c', pre ++ [x], hlt, by first | rfl | simp, Hst.out.symm, by rw [e1], by simp only [rowS, e1, e2]; exact hF⟩
    · obtain rfl : k = es.length := by omega
      rw [List.take_length] at hpre
      subst hpre
      go_wp2
      go_ret
      exact ⟨_, rfl, a1, c1, rfl, hE⟩
def chg2Rel (es : List Ch) (l : List HProp) (o i : Value) (wr : World) : Prop :=
  ∃ (k : Nat) (ao : Option Addr) (c : Nat) (pre : List (List UInt8)), k ≤ es.length ∧ i = .int .i64 k ∧ pre = (es.take k).map Ch.path ∧ o = .slice ao pre.length c ∧ Ent (rowS ao c pre :: l) wr
set_option maxRecDepth 100000 in
set_option maxHeartbeats 2000000 in
theorem chg2_any {es : List Ch} (hn : es.length ≤ 1000000) {ao : Option Addr} {c : Nat} {l : List HProp} {w : World} (hk : Knows l (reads (.slice ao es.length c) es.length (es.flatMap chC))) (hE : Ent l w) :
    Calls Tryd.prog 47 #[.slice ao es.length c] w (Ret fun v w' => ∃ ao' c', v = .slice ao' (es.map Ch.path).length c' ∧ Ent (rowS ao' c' (es.map Ch.path) :: l) w') := by
  go_enter Tryd.func47, Tryd.ntmps47
  go_wp2
  go_loopw [3, 4] (fun o i wr => chg2Rel es l o i wr) (fun _ i _ => es.length - (intOf i).toNat)
  case atStart => exact ⟨0, none, 0, [], Nat.zero_le _, rfl, rfl, rfl, hE.nil _ _⟩
  case round =>
    clear hE
    obtain ⟨k, a1, c1, pre, hkl, rfl, hpre, rfl, hE⟩ := hrel
    have hpl : pre.length ≤ 1000000 := by rw [hpre, List.length_map, List.length_take]; omega
    by_cases hlt : k < es.length
    · obtain ⟨b, off, rfl, hz⟩ := ch_at (hk _ hE.tail) hlt
      have h0 : wr.cell? ⟨b, off + k * 7, none⟩ = some (.string ⟨es[k].path.toArray⟩) := hz 0 _ rfl
      clear hz
      have Hst := SL.hid (show (es.take (k + 1)).map Ch.path = pre ++ [es[k].path] by rw [List.take_succ_eq_append_getElem hlt, List.map_append, ← hpre]; rfl)
      clear hpre
      generalize es[k].path = x at *
      go_wp2_with (first
        | go_skip
        | ((with_reducible (show Go.wpList _ _ _ (Go.Oper.mk _ (.call { callee := .builtin .append, args := _, argTypes := _ }) _ _ _ _ :: _) _ _)); have hE9 := hE.alloc (.cells #[.string ⟨x.toArray⟩] 9); refine wpl_appendG hE9 1 rfl rfl rfl rfl rfl Tryd.underlying75 info_str (by decide) (m := 1) (news := [strv x]) (reads_pt hE9 0 rfl (off := 0) (fun j u hu => by rw [Nat.zero_add, List.getElem?_toArray]; exact hu)) rfl (by simp [strv, Value.oneCell']) (by omega) (by omega) ?_; clear hE9 hE; intro ao' c' w6 hE10; simp only [List.set_cons_zero, List.set_cons_succ] at hE10))
      go_roundw
      case measure => simp [intOf] <;> omega
      case rel =>
        have hF := hE10.tail
        have e1 : (pre ++ [x]).length = pre.length + 1 := by simp
        have e2 : (pre ++ [x]).map strv = pre.map strv ++ [strv x] := by simp
        exact ⟨k + 1, ao', c', pre ++ [x], hlt, by first | rfl | simp, Hst.out.symm, by rw [e1], by simp only [rowS, e1, e2]; exact hF⟩
    · obtain rfl : k = es.length := by omega
      rw [List.take_length] at hpre
      subst hpre
      go_wp2
      go_ret
      exact ⟨_, rfl, a1, c1, rfl, hE⟩
end Go.Proofs.YtcpgelpajppgdaaDoor
namespace Go.Proofs.YtcpgelpajppgdaaDoor
open Go.RowKit Go.SL

/-- the document's side of a path -/
def rOf (l : List En) (p : List UInt8) : Sd := match l.find? (fun x => x.path == p) with
  | some x => ⟨true, x.dir, x.data⟩
  | none => if p = [] then ⟨true, true, []⟩ else .no
theorem rOf_fE {l : List En} {p : List UInt8} (h : p ≠ []) : rOf l p = fE l p := by
  unfold rOf fE
  cases l.find? (fun x => x.path == p) with
  | some x => rfl
  | none => rw [if_neg h]; rfl
theorem find_first {l : List En} {p : List UInt8} {k : Nat} (hk : k < l.length) (h : ∀ (j : Nat) (hj : j < l.length), j < k → l[j].path ≠ p) (he : l[k].path = p) : l.find? (fun x => x.path == p) = some l[k] := by
  rw [List.find?_eq_some_iff_getElem]
  exact ⟨by simpa using he, k, hk, rfl, fun j hj => by simpa using h j (by omega) hj⟩
theorem find_nowhere {l : List En} {p : List UInt8} (h : ∀ (j : Nat) (hj : j < l.length), j < l.length → l[j].path ≠ p) : l.find? (fun x => x.path == p) = none := by
  refine List.find?_eq_none.2 fun x hx => ?_
  obtain ⟨j, hj, rfl⟩ := List.getElem_of_mem hx
  simpa using h j hj hj
def OfRel (es : List En) (p : List UInt8) (b4 : Nat) (l : List HProp) (i : Value) (wr : World) : Prop := ∃ k : Nat, k ≤ es.length ∧ i = .int .i64 k ∧ (∀ (j : Nat) (hj : j < es.length), j < k → es[j].path ≠ p) ∧ Ent (pt b4 (.cells #[.bool false, .bool false, .string ⟨#[]⟩] 39) :: l) wr
set_option maxRecDepth 100000 in
set_option maxHeartbeats 2000000 in
attribute [-go_sem] Instr.loadAt in
theorem rOf_any {es : List En} {p : List UInt8} (hn : es.length ≤ 1000000) {ao : Option Addr} {c : Nat} {l : List HProp} {w : World} (hk : Knows l (reads (.slice ao es.length c) es.length (es.flatMap enC))) (hE : Ent l w) :
    Calls Tryd.prog 16 #[.slice ao es.length c, .string ⟨p.toArray⟩] w (Ret fun v w' => v = sdV (rOf es p) ∧ Ent l w') := by
  go_enter Tryd.func16, Tryd.ntmps16
  go_wp2_with (first
    | go_skip
    | ((with_reducible (show Go.wpList _ _ _ (Go.Oper.mk _ (.alloc _) _ _ _ _ :: _) _ _)); refine wpl_alloc hE rfl rfl (by simp [go_sem]; rfl) ?_; clear hE; intro b4 w hE; simp only [Act.eval, Act.put, List.setIfInBounds_toArray, List.set_cons_zero, List.set_cons_succ, getD_lit, List.getD_cons_succ, List.getD_cons_zero, Value.cells] at hE))
  go_loopw [5] (fun i wr => OfRel es p b4 l i wr) (fun i _ => es.length - (intOf i).toNat)
  case atStart => exact ⟨0, Nat.zero_le _, rfl, fun j _ h => absurd h (Nat.not_lt_zero j), hE⟩
  case round =>
    clear hE
    obtain ⟨k, hkl, rfl, hin, hE⟩ := hrel
    have Hin := SL.hid hin
    clear hin
    by_cases hlt : k < es.length
    · obtain ⟨b, off, rfl, hz⟩ := en_at (hk _ hE.tail) hlt
      clear hz
      have f0 := SL.hid (show ∀ w, Ent l w → _ from fun w h => load_en (hk w h) hlt)
      have hl0 := (f0.out _ hE.tail).2.1
      obtain ⟨x, hx⟩ : ∃ x, es[k] = x := ⟨_, rfl⟩
      have HX := SL.hid hx
      rw [hx] at f0 hl0
      clear hx
      obtain ⟨xp, xd, xb⟩ := x
      simp only at f0 hl0
      cases he : (xp == p) with
      | true =>
        have R := SL.hid (show rOf es p = ⟨true, xd, xb⟩ by
          have := find_first hlt Hin.out (by rw [HX.out]; simpa using he)
          rw [rOf, this, HX.out])
        go_wp2
        refine wp_region_held_drew (S := (fun w' => ((Instr.loadAt 4 (.pointer (some ⟨b, off + k * 3 + 1, none⟩))).run Tryd.prog w' = .ok (.bool xd) w') ∧ ((Instr.loadAt 9 (.pointer (some ⟨b, off + k * 3 + 2, none⟩))).run Tryd.prog w' = .ok (.string ⟨xb.toArray⟩) w'))) (by kernel_rfl) ⟨((f0.out _ (hE.drew.tail)).2.2.1), ((f0.out _ (hE.drew.tail)).2.2.2)⟩ (fun hS => ?_)
        refine tV 0 ⟨some 19, .move (.tmp 0), _, _, _, none⟩ hS ?_
        refine tV 1 ⟨some 20, .move (.tmp 5), _, _, _, none⟩ hS ?_
        refine tV 2 ⟨some 21, .indexAddr 22 (.tmp 19) (.tmp 20), _, _, _, none⟩ hS ?_
        refine tV 3 ⟨some 22, .fieldAddr 63 (.tmp 21) 1, _, _, _, none⟩ hS ?_
        refine tL 4 ⟨some 23, .load 4 (.tmp 22), _, _, _, none⟩ hS ?_
        refine tV 5 ⟨some 24, .move (.tmp 0), _, _, _, none⟩ hS ?_
        refine tV 6 ⟨some 25, .move (.tmp 5), _, _, _, none⟩ hS ?_
        refine tV 7 ⟨some 26, .indexAddr 22 (.tmp 24) (.tmp 25), _, _, _, none⟩ hS ?_
        refine tV 8 ⟨some 27, .fieldAddr 63 (.tmp 26) 2, _, _, _, none⟩ hS ?_
        refine tL 9 ⟨some 28, .load 9 (.tmp 27), _, _, _, none⟩ hS ?_
        refine tV 10 ⟨some 29, .build 39 #[(0, .const (.bool true)), (1, .tmp 23), (2, .tmp 28)], _, _, _, none⟩ hS ?_
        refine wpAnyH_ready (rs := [11]) (by kernel_rfl) (by simp) ?_
        refine (AllReadyH.cons (o := ⟨none, .store 39 (.tmp 4) (.tmp 29), _, _, _, none⟩) rfl (fun K hK => ?_) AllReadyH.nil)
        (refine step_storeW hE.drew 0 rfl (by rfl) (by rfl) (by rfl) (xs := [.bool true, .bool xd, .string ⟨xb.toArray⟩]) (by rfl) Tryd.sizeOf39 rfl (by simp [Value.oneCell']) rfl ?_; intro w7 hEs; simp only [List.set_cons_zero] at hEs)
        refine hK.out _ _ ⟨((f0.out _ (hEs.tail)).2.2.1), ((f0.out _ (hEs.tail)).2.2.2)⟩ (fun hS => ?_)
        clear hK K
        try simp only [Act.put, sb, s0, sz]
        refine wpAnyH_done (by kernel_rfl) ?_ _
        all_goals
          clear hS
          go_wp2
          refine bodyPost_ret (results_cellA rfl hEs 0 rfl rfl Tryd.isAgg39 Tryd.sizeOf39 rfl) rfl ?_
          exact ⟨_, rfl, by rw [R.out]; rfl, hEs.tail⟩
      | false =>
        have Hne := SL.hid (show xp ≠ p by simpa using he)
        go_wp2
        go_roundw
        case rel =>
          refine ⟨k + 1, hlt, by first | rfl | simp, fun j hj hjk => ?_, hE⟩
          rcases Nat.lt_or_eq_of_le (Nat.le_of_lt_succ hjk) with h | rfl
          · exact Hin.out j hj h
          · rw [HX.out]; exact Hne.out
        case measure => simp [intOf] <;> omega
    · obtain rfl : k = es.length := by omega
      have hnw := find_nowhere Hin.out
      cases hp0 : (p == []) with
      | true =>
        have R := SL.hid (show rOf es p = ⟨true, true, []⟩ by rw [rOf, hnw]; simp only; rw [if_pos (by simpa using hp0)])
        clear hnw
        go_wp2_with (first
          | go_skip
          | ((with_reducible (show Go.wpList _ _ _ (Go.Oper.mk _ (.store _ _ _) _ _ _ _ :: _) _ _)); refine wpl_storeW hE 0 rfl rfl rfl (xs := [.bool true, .bool true, .string ⟨#[]⟩]) rfl rfl Tryd.sizeOf39 rfl (by simp [Value.oneCell']) rfl ?_; clear hE; intro w8 hE; simp only [List.set_cons_zero] at hE))
        refine bodyPost_ret (results_cellA rfl hE 0 rfl rfl Tryd.isAgg39 Tryd.sizeOf39 rfl) rfl ?_
        exact ⟨_, rfl, by rw [R.out]; rfl, hE.tail⟩
      | false =>
        have R := SL.hid (show rOf es p = .no by rw [rOf, hnw]; simp only; rw [if_neg (by simpa using hp0)])
        clear hnw
        go_wp2_with (first
          | go_skip
          | ((with_reducible (show Go.wpList _ _ _ (Go.Oper.mk _ (.store _ _ _) _ _ _ _ :: _) _ _)); refine wpl_storeW hE 0 rfl rfl rfl (xs := [.bool false, .bool false, .string ⟨#[]⟩]) rfl rfl Tryd.sizeOf39 rfl (by simp [Value.oneCell']) rfl ?_; clear hE; intro w8 hE; simp only [List.set_cons_zero] at hE))
        refine bodyPost_ret (results_cellA rfl hE 0 rfl rfl Tryd.isAgg39 Tryd.sizeOf39 rfl) rfl ?_
        exact ⟨_, rfl, by rw [R.out]; rfl, hE.tail⟩
end Go.Proofs.YtcpgelpajppgdaaDoor
namespace Go.Proofs.YtcpgelpajppgdaaDoor
open Go.RowKit Go.SL

set_option maxRecDepth 100000 in
theorem sideOf_any {t : Tr} {kv : Value} {l : List HProp} {w : World} (hE : Ent l w) :
    Calls Tryd.prog 38 #[.agg #[.bool t.dir, .string ⟨t.data.toArray⟩, kv]] w (Ret fun v w' => v = sdV ⟨true, t.dir, t.data⟩ ∧ Ent l w') := by
  go_enter Tryd.func38, Tryd.ntmps38
  go_wp2_with (first
    | go_skip
    | ((with_reducible (show Go.wpList _ _ _ (Go.Oper.mk _ (.box _ _) _ _ _ _ :: _) _ _)); refine wpl_box hE rfl rfl rfl ?_; clear hE; intro b1 w hE; simp only [Act.eval, Act.put, List.setIfInBounds_toArray, List.set_cons_zero, List.set_cons_succ, getD_lit, List.getD_cons_succ, List.getD_cons_zero, Value.cells] at hE)
    | ((with_reducible (show Go.wpList _ _ _ (Go.Oper.mk _ (.alloc _) _ _ _ _ :: _) _ _)); refine wpl_alloc hE rfl rfl (by simp [go_sem]; rfl) ?_; clear hE; intro b2 w hE; simp only [Act.eval, Act.put, List.setIfInBounds_toArray, List.set_cons_zero, List.set_cons_succ, getD_lit, List.getD_cons_succ, List.getD_cons_zero, Value.cells] at hE)
    | ((with_reducible (show Go.wpList _ _ _ (Go.Oper.mk _ (.store _ _ _) _ _ _ _ :: _) _ _)); refine wpl_storeW hE 0 rfl rfl rfl (xs := [.bool true, .bool t.dir, .string ⟨t.data.toArray⟩]) rfl rfl Tryd.sizeOf36 rfl (by simp [Value.oneCell']) rfl ?_; clear hE; intro w8 hE; simp only [List.set_cons_zero] at hE)
    | ((with_reducible (show Go.wpList _ _ _ (Go.Oper.mk _ (.load _ _) _ _ _ _ :: _) _ _)); (first | (refine wpl_load1 hE 0 rfl rfl rfl rfl (by simp [go_sem]) rfl ?_) | (refine wpl_load1 hE 1 rfl rfl rfl rfl (by simp [go_sem]) rfl ?_) | (refine wpl_load1 hE 2 rfl rfl rfl rfl (by simp [go_sem]) rfl ?_) | (refine wpl_load1 hE 3 rfl rfl rfl rfl (by simp [go_sem]) rfl ?_) | (refine wpl_load1 hE 4 rfl rfl rfl rfl (by simp [go_sem]) rfl ?_) | (refine wpl_load1 hE 5 rfl rfl rfl rfl (by simp [go_sem]) rfl ?_) | (refine wpl_load1 hE 6 rfl rfl rfl rfl (by simp [go_sem]) rfl ?_) | (refine wpl_load1 hE 7 rfl rfl rfl rfl (by simp [go_sem]) rfl ?_))))
  refine bodyPost_ret (results_cellA rfl hE 0 rfl rfl Tryd.isAgg36 Tryd.sizeOf36 rfl) rfl ?_
  exact ⟨_, rfl, rfl, hE.tail.tail⟩
set_option maxRecDepth 100000 in
theorem entry_nil {l : List HProp} {w : World} (hE : Ent l w) :
    Calls Tryd.prog 33 #[.pointer none] w (Ret fun v w' => v = sdV .no ∧ Ent l w') := by
  go_enter Tryd.func33, Tryd.ntmps33
  go_wp2_with (first
    | go_skip
    | ((with_reducible (show Go.wpList _ _ _ (Go.Oper.mk _ (.alloc _) _ _ _ _ :: _) _ _)); refine wpl_alloc hE rfl rfl (by simp [go_sem]; rfl) ?_; clear hE; intro b2 w hE; simp only [Act.eval, Act.put, List.setIfInBounds_toArray, List.set_cons_zero, List.set_cons_succ, getD_lit, List.getD_cons_succ, List.getD_cons_zero, Value.cells] at hE)
    | ((with_reducible (show Go.wpList _ _ _ (Go.Oper.mk _ (.store _ _ _) _ _ _ _ :: _) _ _)); refine wpl_storeW hE 0 rfl rfl rfl (xs := [.bool false, .bool false, .string ⟨#[]⟩]) rfl rfl Tryd.sizeOf36 rfl (by simp [Value.oneCell']) rfl ?_; clear hE; intro w8 hE; simp only [List.set_cons_zero] at hE))
  refine bodyPost_ret (results_cellA rfl hE 0 rfl rfl Tryd.isAgg36 Tryd.sizeOf36 rfl) rfl ?_
  exact ⟨_, rfl, rfl, hE.tail⟩
set_option maxRecDepth 100000 in
theorem lside_any (s : Sd) {l : List HProp} {w : World} (hE : Ent l w) :
    Calls Tryd.prog 15 #[sdV s] w (Ret fun v w' => v = sdV s ∧ Ent l w') := by
  simp only [sdV]
  go_enter Tryd.func15, Tryd.ntmps15
  go_wp2_with (first
    | go_skip
    | ((with_reducible (show Go.wpList _ _ _ (Go.Oper.mk _ (.box _ _) _ _ _ _ :: _) _ _)); refine wpl_box hE rfl rfl rfl ?_; clear hE; intro b1 w hE; simp only [Act.eval, Act.put, List.setIfInBounds_toArray, List.set_cons_zero, List.set_cons_succ, getD_lit, List.getD_cons_succ, List.getD_cons_zero, Value.cells] at hE)
    | ((with_reducible (show Go.wpList _ _ _ (Go.Oper.mk _ (.alloc _) _ _ _ _ :: _) _ _)); refine wpl_alloc hE rfl rfl (by simp [go_sem]; rfl) ?_; clear hE; intro b2 w hE; simp only [Act.eval, Act.put, List.setIfInBounds_toArray, List.set_cons_zero, List.set_cons_succ, getD_lit, List.getD_cons_succ, List.getD_cons_zero, Value.cells] at hE)
    | ((with_reducible (show Go.wpList _ _ _ (Go.Oper.mk _ (.store _ _ _) _ _ _ _ :: _) _ _)); refine wpl_storeW hE 0 rfl rfl rfl (xs := [.bool s.there, .bool s.dir, .string ⟨s.data.toArray⟩]) rfl rfl Tryd.sizeOf36 rfl (by simp [Value.oneCell']) rfl ?_; clear hE; intro w8 hE; simp only [List.set_cons_zero] at hE)
    | ((with_reducible (show Go.wpList _ _ _ (Go.Oper.mk _ (.load _ _) _ _ _ _ :: _) _ _)); (first | (refine wpl_load1 hE 0 rfl rfl rfl rfl (by simp [go_sem]) rfl ?_) | (refine wpl_load1 hE 1 rfl rfl rfl rfl (by simp [go_sem]) rfl ?_) | (refine wpl_load1 hE 2 rfl rfl rfl rfl (by simp [go_sem]) rfl ?_) | (refine wpl_load1 hE 3 rfl rfl rfl rfl (by simp [go_sem]) rfl ?_) | (refine wpl_load1 hE 4 rfl rfl rfl rfl (by simp [go_sem]) rfl ?_) | (refine wpl_load1 hE 5 rfl rfl rfl rfl (by simp [go_sem]) rfl ?_) | (refine wpl_load1 hE 6 rfl rfl rfl rfl (by simp [go_sem]) rfl ?_) | (refine wpl_load1 hE 7 rfl rfl rfl rfl (by simp [go_sem]) rfl ?_))))
  refine bodyPost_ret (results_cellA rfl hE 0 rfl rfl Tryd.isAgg36 Tryd.sizeOf36 rfl) rfl ?_
  exact ⟨_, rfl, rfl, hE.tail.tail⟩
set_option maxRecDepth 100000 in
set_option maxHeartbeats 1000000 in
attribute [-go_sem] Instr.loadAt in
theorem entry_some {x : En} {b off : Nat} {l : List HProp} (f0 : ∀ w, Ent l w → (Instr.loadAt 4 (.pointer (some ⟨b, off + 1, none⟩))).run Tryd.prog w = .ok (.bool x.dir) w ∧ (Instr.loadAt 9 (.pointer (some ⟨b, off + 2, none⟩))).run Tryd.prog w = .ok (.string ⟨x.data.toArray⟩) w) {w : World} (hE : Ent l w) :
    Calls Tryd.prog 33 #[.pointer (some ⟨b, off, none⟩)] w (Ret fun v w' => v = sdV ⟨true, x.dir, x.data⟩ ∧ Ent l w') := by
  have F0 := SL.hid f0
  clear f0
  go_enter Tryd.func33, Tryd.ntmps33
  go_wp2_with (first
    | go_skip
    | ((with_reducible (show Go.wpList _ _ _ (Go.Oper.mk _ (.alloc _) _ _ _ _ :: _) _ _)); refine wpl_alloc hE rfl rfl (by simp [go_sem]; rfl) ?_; clear hE; intro b2 w hE; simp only [Act.eval, Act.put, List.setIfInBounds_toArray, List.set_cons_zero, List.set_cons_succ, getD_lit, List.getD_cons_succ, List.getD_cons_zero, Value.cells] at hE))
  refine wp_region_held_drew (S := (fun w' => ((Instr.loadAt 4 (.pointer (some ⟨b, off + 1, none⟩))).run Tryd.prog w' = .ok (.bool x.dir) w') ∧ ((Instr.loadAt 9 (.pointer (some ⟨b, off + 2, none⟩))).run Tryd.prog w' = .ok (.string ⟨x.data.toArray⟩) w'))) (by kernel_rfl) ⟨((F0.out _ (hE.drew.tail)).1), ((F0.out _ (hE.drew.tail)).2)⟩ (fun hS => ?_)
  refine tV 0 ⟨some 6, .move (.tmp 0), _, _, _, none⟩ hS ?_
  refine tV 1 ⟨some 7, .nilCheck (.tmp 6), _, _, _, none⟩ hS ?_
  refine tV 2 ⟨some 8, .fieldAddr 63 (.tmp 7) 1, _, _, _, none⟩ hS ?_
  refine tL 3 ⟨some 9, .load 4 (.tmp 8), _, _, _, none⟩ hS ?_
  refine tV 4 ⟨some 10, .move (.tmp 0), _, _, _, none⟩ hS ?_
  refine tV 5 ⟨some 11, .nilCheck (.tmp 10), _, _, _, none⟩ hS ?_
  refine tV 6 ⟨some 12, .fieldAddr 63 (.tmp 11) 2, _, _, _, none⟩ hS ?_
  refine tL 7 ⟨some 13, .load 9 (.tmp 12), _, _, _, none⟩ hS ?_
  refine tV 8 ⟨some 14, .build 36 #[(0, .const (.bool true)), (1, .tmp 9), (2, .tmp 13)], _, _, _, none⟩ hS ?_
  refine wpAnyH_ready (rs := [9]) (by kernel_rfl) (by simp) ?_
  refine (AllReadyH.cons (o := ⟨none, .store 36 (.tmp 2) (.tmp 14), _, _, _, none⟩) rfl (fun K hK => ?_) AllReadyH.nil)
  (refine step_storeW hE.drew 0 rfl (by rfl) (by rfl) (by rfl) (xs := [.bool true, .bool x.dir, .string ⟨x.data.toArray⟩]) (by rfl) Tryd.sizeOf36 rfl (by simp [Value.oneCell']) rfl ?_; intro w7 hEs; simp only [List.set_cons_zero] at hEs)
  refine hK.out _ _ ⟨((F0.out _ (hEs.tail)).1), ((F0.out _ (hEs.tail)).2)⟩ (fun hS => ?_)
  clear hK K
  try simp only [Act.put, sb, s0, sz]
  refine wpAnyH_done (by kernel_rfl) ?_ _
  all_goals
    clear hS
    go_wp2
    refine bodyPost_ret (results_cellA rfl hEs 0 rfl rfl Tryd.isAgg36 Tryd.sizeOf36 rfl) rfl ?_
    exact ⟨_, rfl, rfl, hEs.tail⟩
end Go.Proofs.YtcpgelpajppgdaaDoor
namespace Go.Proofs.YtcpgelpajppgdaaDoor
open Go.RowKit Go.SL

def Small (x : Ch) : Prop := x.path.length ≤ 200 ∧ x.was.data.length ≤ 9000 ∧ x.now.data.length ≤ 9000
def gr28 (es : List Ch) : Bool := decide (100 < es.length) || es.any fun x => decide (200 < x.path.length) || decide (9000 < x.was.data.length) || decide (9000 < x.now.data.length)
theorem gr28_not {es : List Ch} : gr28 es = false ↔ es.length ≤ 100 ∧ ∀ x ∈ es, Small x := by
  simp only [gr28, Small, Bool.or_eq_false_iff, decide_eq_false_iff_not, List.any_eq_false, Nat.not_lt, Bool.not_eq_true, and_assoc]
def G28Post (es : List Ch) (l : List HProp) (v : Value) (w' : World) : Prop := v = .bool (gr28 es) ∧ Ent l w'
theorem G28Post.mk {es : List Ch} {l : List HProp} {w' : World} (b : Bool) (h : Ent l w') (h2 : gr28 es = b) : G28Post es l (.bool b) w' := ⟨by rw [h2], h⟩
def G28Rel (es : List Ch) (l : List HProp) (i : Value) (wr : World) : Prop := ∃ k : Nat, k ≤ es.length ∧ i = .int .i64 k ∧ (∀ x ∈ es.take k, Small x) ∧ Ent l wr
set_option maxRecDepth 100000 in
set_option maxHeartbeats 2000000 in
theorem Great28_any {es : List Ch} {ao : Option Addr} {c : Nat} {l : List HProp} {w : World} (hk : Knows l (reads (.slice ao es.length c) es.length (es.flatMap chC))) (hE : Ent l w) :
    Calls Tryd.prog 19 #[.slice ao es.length c] w (Ret (G28Post es l)) := by
  cases h100 : decide ((100 : Int) < (es.length : Int)) with
  | true =>
    go_enter Tryd.func19, Tryd.ntmps19
    go_wp2
    refine bodyPost_ret (results_tmp rfl _ _ _) rfl ?_
    exact ⟨_, rfl, .mk true hE (by have := of_decide_eq_true h100; rw [gr28, decide_eq_true (by omega)]; rfl)⟩
  | false =>
    have hle : es.length ≤ 100 := by have := of_decide_eq_false h100; omega
    have Hle := SL.hid hle
    go_enter Tryd.func19, Tryd.ntmps19
    go_wp2
    clear h100
    go_loopw [3] (fun i wr => G28Rel es l i wr) (fun i _ => es.length - (intOf i).toNat)
    case atStart => exact ⟨0, Nat.zero_le _, rfl, by simp, hE⟩
    case round =>
      clear hE
      obtain ⟨k, hkn, rfl, hin, hE⟩ := hrel
      have Hin := SL.hid hin
      clear hin
      by_cases hlt : k < es.length
      · obtain ⟨b, off, rfl, hz⟩ := ch_at (hk _ hE) hlt
        have h0 : wr.cell? ⟨b, off + k * 7, none⟩ = some (.string ⟨es[k].path.toArray⟩) := hz 0 _ rfl
        have h3 : wr.cell? ⟨b, off + k * 7 + 3, none⟩ = some (.string ⟨es[k].was.data.toArray⟩) := hz 3 _ rfl
        have h6 : wr.cell? ⟨b, off + k * 7 + 6, none⟩ = some (.string ⟨es[k].now.data.toArray⟩) := hz 6 _ rfl
        clear hz
        have h31 : wr.cell? ⟨b, off + k * 7 + 1 + 2, none⟩ = some (.string ⟨es[k].was.data.toArray⟩) := h3
        have h42 : wr.cell? ⟨b, off + k * 7 + 4 + 2, none⟩ = some (.string ⟨es[k].now.data.toArray⟩) := h6
        have htk := SL.hid (List.take_succ_eq_append_getElem hlt)
        have Hmem := SL.hid (List.getElem_mem hlt)
        generalize es[k] = x at *
        obtain ⟨xp, ⟨wt, wd, wb⟩, ⟨nt, nd, nb⟩⟩ := x
        simp only at h0 h3 h6 h31 h42
        cases hp : decide ((200 : Int) < (xp.length : Int)) with
        | true =>
          go_wp2
          refine bodyPost_ret (results_tmp rfl _ _ _) rfl ?_
          exact ⟨_, rfl, .mk true hE (eq_true_of_ne_false fun h => by have := ((gr28_not.1 h).2 _ Hmem.out).1; have := of_decide_eq_true hp; simp only at *; omega)⟩
        | false =>
          cases hw : decide ((9000 : Int) < (wb.length : Int)) with
          | true =>
            go_wp2
            refine bodyPost_ret (results_tmp rfl _ _ _) rfl ?_
            exact ⟨_, rfl, .mk true hE (eq_true_of_ne_false fun h => by have := ((gr28_not.1 h).2 _ Hmem.out).2.1; have := of_decide_eq_true hw; simp only at *; omega)⟩
          | false =>
            cases hd : decide ((9000 : Int) < (nb.length : Int)) with
            | true =>
              go_wp2
              refine bodyPost_ret (results_tmp rfl _ _ _) rfl ?_
              exact ⟨_, rfl, .mk true hE (eq_true_of_ne_false fun h => by have := ((gr28_not.1 h).2 _ Hmem.out).2.2; have := of_decide_eq_true hd; simp only at *; omega)⟩
            | false =>
              go_wp2
              go_roundw
              case rel =>
                refine ⟨k + 1, hlt, by first | rfl | simp, ?_, hE⟩
                rw [htk.out]
                intro y hy
                rcases List.mem_append.1 hy with h | h
                · exact Hin.out y h
                · rw [List.mem_singleton.1 h]
                  have := of_decide_eq_false hp
                  have := of_decide_eq_false hw
                  have := of_decide_eq_false hd
                  exact ⟨by simp only; omega, by simp only; omega, by simp only; omega⟩
              case measure => simp [intOf] <;> omega
      · obtain rfl : k = es.length := by omega
        go_wp2
        refine bodyPost_ret (results_tmp rfl _ _ _) rfl ?_
        exact ⟨_, rfl, .mk false hE (gr28_not.2 ⟨Hle.out, by have := Hin.out; rwa [List.take_length] at this⟩)⟩
end Go.Proofs.YtcpgelpajppgdaaDoor
namespace Go.Proofs.YtcpgelpajppgdaaDoor
open Go.RowKit Go.SL

def SoRelO (all : List (List UInt8)) (LL : List HProp) (o i : Value) (wr : World) : Prop :=
  ∃ (k : Nat) (ao : Option Addr) (c : Nat) (out : List (List UInt8)), k ≤ all.length ∧ i = .int .i64 k ∧ out = sortK (all.take k) ∧ o = .slice ao out.length c ∧ Ent (rowS ao c out :: LL) wr
def SoRelI (out : List (List UInt8)) (key : List UInt8) (L : List HProp) (a i : Value) (wr : World) : Prop :=
  ∃ (j : Nat) (isb : Bool), j ≤ out.length ∧ a = .int .i64 j ∧ i = .bool isb ∧ isb = (out.take j).contains key ∧ (∀ x ∈ out.take j, lessP x key = true ∨ x = key) ∧ Ent L wr
theorem sortK_step {all : List (List UInt8)} {k : Nat} (h : k < all.length) : sortK (all.take (k + 1)) = insP all[k] (sortK (all.take k)) := by
  rw [List.take_succ_eq_append_getElem h, sortK, List.foldl_append]
  rfl
theorem sortK_len : ∀ (all : List (List UInt8)), (sortK all).length ≤ all.length := by
  intro all
  have key : ∀ (k : List UInt8) (l : List (List UInt8)), (insP k l).length ≤ l.length + 1 := by
    intro k l
    induction l with
    | nil => simp [insP]
    | cons x r ih =>
      unfold insP
      split
      · simp
      · split
        · simp
        · simp only [List.length_cons]; omega
  have go : ∀ (l out : List (List UInt8)), (l.foldl (fun out k => insP k out) out).length ≤ out.length + l.length := by
    intro l
    induction l with
    | nil => intro out; simp
    | cons k l ih =>
      intro out
      have h1 := ih (insP k out)
      have h2 := key k out
      simp only [List.foldl_cons, List.length_cons]
      omega
  have := go all []
  simpa [sortK] using this
theorem row_capQ {e : TypeId} {size n c : Nat} {ao : Option Addr} {xs : List Value} {l : List HProp} {w : World} (hE : Ent l w) (i : Nat) (hi : l[i]? = some (row e size (.slice ao n c) n xs)) : n ≤ c := by
  rcases (hE.owns i hi).2 with ⟨h, h0⟩ | ⟨g, cap, cur, h, _, _, hn, _⟩
  · omega
  · cases h; exact hn
theorem row_parts {ao : Option Addr} {c : Nat} {xs : List (List UInt8)} {LL : List HProp} {w : World} (hE : Ent (rowS ao c xs :: LL) w) {j : Nat} (hj : j ≤ xs.length) :
    (∀ w, (Instr.sliceAt 75 (.slice ao xs.length c) none (some (.int .i64 j)) none).run Tryd.prog w = .ok (.slice ao j c) w) ∧
    (∀ w, (Instr.sliceAt 75 (.slice ao xs.length c) (some (.int .i64 j)) none none).run Tryd.prog w = .ok (.slice (cutAt 1 ao c j) (xs.length - j) (c - j)) w) ∧
    (∀ w, Ent (rowS ao c xs :: LL) w → reads (.slice ao j c) j ((xs.take j).map strv) w) ∧
    (∀ w, Ent (rowS ao c xs :: LL) w → reads (.slice (cutAt 1 ao c j) (xs.length - j) (c - j)) (xs.length - j) ((xs.drop j).map strv) w) := by
  have hc := row_capQ hE 0 rfl
  refine ⟨fun w => ?_, fun w => ?_, fun w h => ?_, fun w h => ?_⟩
  · rw [sliceAt_slice Tryd.underlying75, run_cut_hi Tryd.underlying75 Tryd.sizeOf9 _ _ c .i64 j (by omega), cut_zero]; rfl
  · rw [sliceAt_slice Tryd.underlying75, run_cut_lo Tryd.underlying75 Tryd.sizeOf9 _ _ c .i64 j (by omega)]
  · have := reads_first (size := 1) (reads_row h 0 rfl) hj
    rwa [Nat.mul_one, ← List.map_take] at this
  · have := reads_behind (size := 1) (reads_row h 0 rfl) (by simp) hc hj
    rwa [Nat.mul_one, ← List.map_drop] at this
theorem strv_one {xs : List (List UInt8)} : ∀ u ∈ xs.map strv, u.oneCell' = true := by intro u hu; obtain ⟨x, _, rfl⟩ := List.mem_map.1 hu; rfl
set_option maxRecDepth 100000 in
set_option maxHeartbeats 8000000 in
attribute [-go_sem] Instr.loadAt in
theorem sorted_any {xs ys : List (List UInt8)} (hn : xs.length + ys.length ≤ 100000) (hx : ∀ x ∈ xs ++ ys, x.length ≤ 100000) {ao bo : Option Addr} {c d : Nat} {l : List HProp} {w : World} (ha : Knows l (reads (.slice ao xs.length c) xs.length (xs.map strv))) (hb : Knows l (reads (.slice bo ys.length d) ys.length (ys.map strv))) (hE : Ent l w) :
    Calls Tryd.prog 34 #[.slice ao xs.length c, .slice bo ys.length d] w (Ret fun v w' => ∃ a' c' m, v = .slice a' (sortK (xs ++ ys)).length c' ∧ Ent (rowS a' c' (sortK (xs ++ ys)) :: (m ++ l)) w') := by
  have e1 : (xs.map strv).length = xs.length * 1 := by simp
  have e2 : (ys.map strv).length = ys.length * 1 := by simp
  have o1 : ∀ u ∈ xs.map strv, u.oneCell' = true := by intro u hu; obtain ⟨x, _, rfl⟩ := List.mem_map.1 hu; rfl
  have o2 : ∀ u ∈ ys.map strv, u.oneCell' = true := by intro u hu; obtain ⟨x, _, rfl⟩ := List.mem_map.1 hu; rfl
  obtain ⟨all, hal⟩ : ∃ all, xs ++ ys = all := ⟨_, rfl⟩
  have eN : xs.length + ys.length = all.length := by rw [← hal, List.length_append]
  have eM : xs.map strv ++ ys.map strv = all.map strv := by rw [← hal, List.map_append]
  rw [hal] at hx ⊢
  have EN := SL.hid eN
  have EM := SL.hid eM
  clear hal eN eM
  go_enter Tryd.func34, Tryd.ntmps34
  have Tok := SL.hid True.intro
  go_wp2_with (first
    | go_skip
    | ((with_reducible (show Go.wpList _ _ _ (Go.Oper.mk _ (.call { callee := .builtin .append, args := _, argTypes := _ }) _ _ _ _ :: _) _ _)); clear Tok; refine wpl_appendG (hE.nil 9 1) 0 rfl rfl rfl rfl rfl Tryd.underlying75 info_str (by decide) (m := xs.length) (news := xs.map strv) (ha _ hE) e1 o1 (by omega) (by omega) ?_; clear hE; intro a1 c1 w6 hE; simp only [List.set_cons_zero, List.nil_append, Nat.zero_add] at hE)
    | ((with_reducible (show Go.wpList _ _ _ (Go.Oper.mk _ (.call { callee := .builtin .append, args := _, argTypes := _ }) _ _ _ _ :: _) _ _)); refine wpl_appendG hE 0 rfl rfl rfl rfl rfl Tryd.underlying75 info_str (by decide) (m := ys.length) (news := ys.map strv) (hb _ hE.tail) e2 o2 (by omega) (by omega) ?_; clear hE; intro a2 c2 w7 hE; simp only [List.set_cons_zero] at hE))
  rw [EN.out, EM.out] at hE
  rw [EN.out] at hn ⊢
  clear e1 e2 o1 o2 ha hb
  obtain ⟨LL, hEL, hall, hl⟩ : ∃ LL, Ent LL w7 ∧ Knows LL (reads (.slice a2 all.length c2) all.length (all.map strv)) ∧ ∃ m, LL = m ++ l := ⟨_, hE, fun w h => reads_row h 0 rfl, [_], rfl⟩
  clear hE
  have hE := hEL
  clear hEL
  have Hx := SL.hid hx
  clear hx
  go_loopw [6, 7] (fun o i wr => SoRelO all LL o i wr) (fun _ i _ => all.length - (intOf i).toNat)
  case atStart => exact ⟨0, none, 0, [], Nat.zero_le _, rfl, rfl, rfl, hE.nil _ _⟩
  case round =>
    clear hE
    obtain ⟨k, a3, c3, out, hkl, rfl, hout, rfl, hE⟩ := hrel
    have hol : out.length ≤ all.length := by
      have h1 := sortK_len (all.take k)
      rw [← hout, List.length_take] at h1
      omega
    by_cases hlt : k < all.length
    · obtain ⟨ba, oa, rfl, hz⟩ := str_at2 (hall _ hE.tail) hlt
      clear hz
      have f2 := SL.hid (show ∀ w, Ent (rowS a3 c3 out :: LL) w → w.cell? ⟨ba, oa + k, none⟩ = some (strv all[k]) from fun w h => by
        obtain ⟨b', o', e, h⟩ := str_at2 (hall w h.tail) hlt
        cases e
        exact h)
      have Hst := SL.hid (sortK_step hlt)
      rw [← hout] at Hst
      have hrise : RiseP out := by rw [hout]; exact sortK_rise _
      have Hri := SL.hid hrise
      have hkx := Hx.out all[k] (List.getElem_mem hlt)
      have Hmem := SL.hid (fun x (h : x ∈ out) => Hx.out x (List.mem_of_mem_take (i := k) (sortK_mem.1 (by rw [← hout]; exact h))))
      clear hrise hout
      simp only [strv] at f2
      generalize all[k] = key at *
      go_wp2
      go_loopw [8, 9] (fun a i wr => SoRelI out key (rowS a3 c3 out :: LL) a i wr) (fun a _ _ => out.length - (intOf a).toNat)
      case atStart => exact ⟨0, false, Nat.zero_le _, rfl, rfl, by simp, by simp, hE⟩
      case round =>
        clear hE
        obtain ⟨j, isb, hjl, rfl, rfl, hisb, hin, hE⟩ := hrel
        have Hisb := SL.hid hisb
        clear hisb
        have Hin := SL.hid hin
        clear hin
        by_cases hj : j < out.length
        case' pos =>
          obtain ⟨bo1, oo1, rfl, hz⟩ := str_at2 (reads_row hE 0 rfl) hj
          clear hz
          have f1 := SL.hid (show ∀ w, Ent (rowS (some ⟨bo1, oo1, none⟩) c3 out :: LL) w → w.cell? ⟨bo1, oo1 + j, none⟩ = some (strv out[j]) from fun w h => by
            obtain ⟨b', o', e, h⟩ := str_at2 (reads_row h 0 rfl) hj
            cases e
            exact h)
          have hxl := Hmem.out out[j] (List.getElem_mem hj)
          have HRO := SL.hid (fun (w : World) (h : Ent (rowS (some ⟨bo1, oo1, none⟩) c3 out :: LL) w) => rOrder_any (p := out[j]) (q := key) hxl hkx h)
          have Htk := SL.hid (List.take_succ_eq_append_getElem hj)
          have Hpl := SL.hid (fun (h2 : lessP key out[j] = true) => insP_at (k := key) (i := j) Hri.out hjl Hin.out (fun _ => h2))
          simp only [strv] at f1
          generalize out[j] = x at *
          have Hord := SL.hid (show (decide (ordP x key ≤ 0) = true → lessP x key = true ∨ x = key) ∧ (decide (ordP x key ≤ 0) = false → lessP key x = true) by
            constructor
            · intro h
              have h := of_decide_eq_true h
              unfold ordP at h
              split at h
              · exact .inl (by assumption)
              · split at h
                · exact absurd h (by decide)
                · next h1 h2 =>
                  right
                  apply Classical.byContradiction
                  intro hne
                  exact h2 (lessP_total hne (by simpa using h1))
            · intro h
              have h := of_decide_eq_false h
              unfold ordP at h
              split at h
              · exact absurd (by decide) h
              · split at h
                · assumption
                · exact absurd (by decide) h)
          generalize ordP x key = o at *
          cases hle : decide (o ≤ 0)
          case' true =>
            go_wp2
            refine wp_region_held_drew (S := (fun w' => ((Instr.loadAt 9 (.pointer (some ⟨bo1, oo1 + j, none⟩))).run Tryd.prog w' = .ok (.string ⟨x.toArray⟩) w') ∧ ((Instr.loadAt 9 (.pointer (some ⟨ba, oa + k, none⟩))).run Tryd.prog w' = .ok (.string ⟨key.toArray⟩) w'))) (by kernel_rfl) ⟨(atCell (f1.out _ hE.drew) (by simp [go_sem])), (atCell (f2.out _ hE.drew) (by simp [go_sem]))⟩ (fun hS => ?_)
            refine tV 0 ⟨some 21, .move (.tmp 8), _, _, _, none⟩ hS ?_
            refine tV 1 ⟨some 22, .move (.tmp 6), _, _, _, none⟩ hS ?_
            refine tV 2 ⟨some 23, .call { callee := .builtin .len, args := #[.tmp 22], argTypes := #[75] }, _, _, _, none⟩ hS ?_
            refine tV 3 ⟨some 24, .binOp .lss 3 (.tmp 21) (.tmp 23) 3, _, _, _, none⟩ hS ?_
            refine tV 4 ⟨some 25, .move (.tmp 24), _, _, _, none⟩ hS ?_
            refine tV 5 ⟨some 26, .move (.tmp 6), _, _, _, some (4, true)⟩ hS ?_
            refine tV 6 ⟨some 27, .move (.tmp 8), _, _, _, some (4, true)⟩ hS ?_
            refine tV 7 ⟨some 28, .indexAddr 75 (.tmp 26) (.tmp 27), _, _, _, some (4, true)⟩ hS ?_
            refine tL 8 ⟨some 29, .load 9 (.tmp 28), _, _, _, some (4, true)⟩ hS ?_
            refine tV 9 ⟨some 30, .move (.tmp 5), _, _, _, some (4, true)⟩ hS ?_
            refine tV 10 ⟨some 31, .move (.tmp 7), _, _, _, some (4, true)⟩ hS ?_
            refine tV 11 ⟨some 32, .indexAddr 75 (.tmp 30) (.tmp 31), _, _, _, some (4, true)⟩ hS ?_
            refine tL 12 ⟨some 33, .load 9 (.tmp 32), _, _, _, some (4, true)⟩ hS ?_
            refine wpAnyH_ready (rs := [13]) (by kernel_rfl) (by simp) ?_
            refine (AllReadyH.cons (o := ⟨some 34, .call { callee := .value (.func 18), args := #[.tmp 29, .tmp 33], argTypes := #[9, 9] }, _, _, _, some (4, true)⟩) rfl (fun K hK => ?_) AllReadyH.nil)
            (go_simp; refine (HRO.out _ hE.drew).mono ?_; rintro e w5 ⟨v, rfl, rfl, hO⟩)
            refine hK.out _ _ ⟨(atCell (f1.out _ hO) (by simp [go_sem])), (atCell (f2.out _ hO) (by simp [go_sem]))⟩ (fun hS => ?_)
            clear hK K
            try simp only [Act.put, sb, s0, sz]
            refine tV 14 ⟨some 35, .binOp .leq 3 (.tmp 34) (.const (.int .i64 0)) 3, _, _, _, some (4, true)⟩ hS ?_
            refine tV 15 ⟨some 36, .pick (.tmp 25) (.tmp 35) (.const (.bool false)), _, _, _, none⟩ hS ?_
            refine wpAnyH_done (by kernel_rfl) ?_ _
            all_goals
              clear hS
              replace hE := hO
              clear hO
              have Hcon := SL.hid (show (out.take (j + 1)).contains key = (isb || x == key) by
                rw [Hisb.out, Htk.out, Bool.eq_iff_iff]
                simp only [List.contains_iff_mem, List.mem_append, List.mem_singleton, Bool.or_eq_true, beq_iff_eq]
                constructor
                · rintro (h | h)
                  · exact .inl h
                  · exact .inr h.symm
                · rintro (h | h)
                  · exact .inl h
                  · exact .inr h.symm)
              have Hnx := SL.hid (show ∀ y ∈ out.take (j + 1), lessP y key = true ∨ y = key from fun y hy => by
                rw [Htk.out] at hy
                rcases List.mem_append.1 hy with h | h
                · exact Hin.out y h
                · rw [List.mem_singleton.1 h]
                  exact Hord.out.1 hle)
              cases isb with
              | true =>
                go_wp2
                refine wp_region_held_drew (S := (fun w' => ((Instr.loadAt 9 (.pointer (some ⟨bo1, oo1 + j, none⟩))).run Tryd.prog w' = .ok (.string ⟨x.toArray⟩) w') ∧ ((Instr.loadAt 9 (.pointer (some ⟨ba, oa + k, none⟩))).run Tryd.prog w' = .ok (.string ⟨key.toArray⟩) w'))) (by kernel_rfl) ⟨(atCell (f1.out _ hE.drew) (by simp [go_sem])), (atCell (f2.out _ hE.drew) (by simp [go_sem]))⟩ (fun hS => ?_)
                refine tV 0 ⟨some 37, .move (.tmp 9), _, _, _, none⟩ hS ?_
                refine tV 1 ⟨some 38, .move (.tmp 37), _, _, _, none⟩ hS ?_
                refine tU 2 ⟨some 39, .move (.tmp 6), _, _, _, some (1, false)⟩ hS ?_
                refine tU 3 ⟨some 40, .move (.tmp 8), _, _, _, some (1, false)⟩ hS ?_
                refine tU 4 ⟨some 41, .indexAddr 75 (.tmp 39) (.tmp 40), _, _, _, some (1, false)⟩ hS ?_
                refine tU 5 ⟨some 42, .load 9 (.tmp 41), _, _, _, some (1, false)⟩ hS ?_
                refine tU 6 ⟨some 43, .move (.tmp 5), _, _, _, some (1, false)⟩ hS ?_
                refine tU 7 ⟨some 44, .move (.tmp 7), _, _, _, some (1, false)⟩ hS ?_
                refine tU 8 ⟨some 45, .indexAddr 75 (.tmp 43) (.tmp 44), _, _, _, some (1, false)⟩ hS ?_
                refine tU 9 ⟨some 46, .load 9 (.tmp 45), _, _, _, some (1, false)⟩ hS ?_
                refine tU 10 ⟨some 47, .binOp .eql 9 (.tmp 42) (.tmp 46) 9, _, _, _, some (1, false)⟩ hS ?_
                refine tV 11 ⟨some 48, .pick (.tmp 38) (.const (.bool true)) (.tmp 47), _, _, _, none⟩ hS ?_
                refine tV 12 ⟨some 9, .assign (.tmp 48), _, _, _, none⟩ hS ?_
                refine wpAnyH_done (by kernel_rfl) ?_ _
                all_goals
                  clear hS
                  replace hE := hE.drew
                  go_wp2
                  go_roundw
                  case rel => exact ⟨j + 1, true, hj, by first | rfl | simp, rfl, by rw [Hcon.out]; rfl, Hnx.out, hE⟩
                  case measure => simp [intOf] <;> omega
              | false =>
                go_wp2
                refine wp_region_held_drew (S := (fun w' => ((Instr.loadAt 9 (.pointer (some ⟨bo1, oo1 + j, none⟩))).run Tryd.prog w' = .ok (.string ⟨x.toArray⟩) w') ∧ ((Instr.loadAt 9 (.pointer (some ⟨ba, oa + k, none⟩))).run Tryd.prog w' = .ok (.string ⟨key.toArray⟩) w'))) (by kernel_rfl) ⟨(atCell (f1.out _ hE.drew) (by simp [go_sem])), (atCell (f2.out _ hE.drew) (by simp [go_sem]))⟩ (fun hS => ?_)
                refine tV 0 ⟨some 37, .move (.tmp 9), _, _, _, none⟩ hS ?_
                refine tV 1 ⟨some 38, .move (.tmp 37), _, _, _, none⟩ hS ?_
                refine tV 2 ⟨some 39, .move (.tmp 6), _, _, _, some (1, false)⟩ hS ?_
                refine tV 3 ⟨some 40, .move (.tmp 8), _, _, _, some (1, false)⟩ hS ?_
                refine tV 4 ⟨some 41, .indexAddr 75 (.tmp 39) (.tmp 40), _, _, _, some (1, false)⟩ hS ?_
                refine tL 5 ⟨some 42, .load 9 (.tmp 41), _, _, _, some (1, false)⟩ hS ?_
                refine tV 6 ⟨some 43, .move (.tmp 5), _, _, _, some (1, false)⟩ hS ?_
                refine tV 7 ⟨some 44, .move (.tmp 7), _, _, _, some (1, false)⟩ hS ?_
                refine tV 8 ⟨some 45, .indexAddr 75 (.tmp 43) (.tmp 44), _, _, _, some (1, false)⟩ hS ?_
                refine tL 9 ⟨some 46, .load 9 (.tmp 45), _, _, _, some (1, false)⟩ hS ?_
                refine tV 10 ⟨some 47, .binOp .eql 9 (.tmp 42) (.tmp 46) 9, _, _, _, some (1, false)⟩ hS ?_
                refine tV 11 ⟨some 48, .pick (.tmp 38) (.const (.bool true)) (.tmp 47), _, _, _, none⟩ hS ?_
                refine tV 12 ⟨some 9, .assign (.tmp 48), _, _, _, none⟩ hS ?_
                refine wpAnyH_done (by kernel_rfl) ?_ _
                all_goals
                  clear hS
                  replace hE := hE.drew
                  go_wp2
                  go_roundw
                  case rel => exact ⟨j + 1, x == key, hj, by first | rfl | simp, rfl, by rw [Hcon.out]; rfl, Hnx.out, hE⟩
                  case measure => simp [intOf] <;> omega
          case' false =>
            have Hins := SL.hid (Hpl.out (Hord.out.2 hle))
            clear hkx hxl
            go_wp2
            refine wp_region_held_drew (S := (fun w' => ((Instr.loadAt 9 (.pointer (some ⟨bo1, oo1 + j, none⟩))).run Tryd.prog w' = .ok (.string ⟨x.toArray⟩) w') ∧ ((Instr.loadAt 9 (.pointer (some ⟨ba, oa + k, none⟩))).run Tryd.prog w' = .ok (.string ⟨key.toArray⟩) w'))) (by kernel_rfl) ⟨(atCell (f1.out _ hE.drew) (by simp [go_sem])), (atCell (f2.out _ hE.drew) (by simp [go_sem]))⟩ (fun hS => ?_)
            refine tV 0 ⟨some 21, .move (.tmp 8), _, _, _, none⟩ hS ?_
            refine tV 1 ⟨some 22, .move (.tmp 6), _, _, _, none⟩ hS ?_
            refine tV 2 ⟨some 23, .call { callee := .builtin .len, args := #[.tmp 22], argTypes := #[75] }, _, _, _, none⟩ hS ?_
            refine tV 3 ⟨some 24, .binOp .lss 3 (.tmp 21) (.tmp 23) 3, _, _, _, none⟩ hS ?_
            refine tV 4 ⟨some 25, .move (.tmp 24), _, _, _, none⟩ hS ?_
            refine tV 5 ⟨some 26, .move (.tmp 6), _, _, _, some (4, true)⟩ hS ?_
            refine tV 6 ⟨some 27, .move (.tmp 8), _, _, _, some (4, true)⟩ hS ?_
            refine tV 7 ⟨some 28, .indexAddr 75 (.tmp 26) (.tmp 27), _, _, _, some (4, true)⟩ hS ?_
            refine tL 8 ⟨some 29, .load 9 (.tmp 28), _, _, _, some (4, true)⟩ hS ?_
            refine tV 9 ⟨some 30, .move (.tmp 5), _, _, _, some (4, true)⟩ hS ?_
            refine tV 10 ⟨some 31, .move (.tmp 7), _, _, _, some (4, true)⟩ hS ?_
            refine tV 11 ⟨some 32, .indexAddr 75 (.tmp 30) (.tmp 31), _, _, _, some (4, true)⟩ hS ?_
            refine tL 12 ⟨some 33, .load 9 (.tmp 32), _, _, _, some (4, true)⟩ hS ?_
            refine wpAnyH_ready (rs := [13]) (by kernel_rfl) (by simp) ?_
            refine (AllReadyH.cons (o := ⟨some 34, .call { callee := .value (.func 18), args := #[.tmp 29, .tmp 33], argTypes := #[9, 9] }, _, _, _, some (4, true)⟩) rfl (fun K hK => ?_) AllReadyH.nil)
            (go_simp; refine (HRO.out _ hE.drew).mono ?_; rintro e w5 ⟨v, rfl, rfl, hO⟩)
            refine hK.out _ _ ⟨(atCell (f1.out _ hO) (by simp [go_sem])), (atCell (f2.out _ hO) (by simp [go_sem]))⟩ (fun hS => ?_)
            clear hK K
            try simp only [Act.put, sb, s0, sz]
            refine tV 14 ⟨some 35, .binOp .leq 3 (.tmp 34) (.const (.int .i64 0)) 3, _, _, _, some (4, true)⟩ hS ?_
            refine tV 15 ⟨some 36, .pick (.tmp 25) (.tmp 35) (.const (.bool false)), _, _, _, none⟩ hS ?_
            refine wpAnyH_done (by kernel_rfl) ?_ _
            all_goals
              clear hS
              replace hE := hO
              clear hO HRO hle Hord Hpl
        case' neg =>
          have Hins := SL.hid (insP_at (k := key) (i := j) Hri.out hjl Hin.out (fun h => absurd h hj))
          clear hkx
          go_wp2
          refine wp_region_held_drew (S := (fun _ => True)) (by kernel_rfl) trivial (fun hS => ?_)
          refine tV 0 ⟨some 21, .move (.tmp 8), _, _, _, none⟩ hS ?_
          refine tV 1 ⟨some 22, .move (.tmp 6), _, _, _, none⟩ hS ?_
          refine tV 2 ⟨some 23, .call { callee := .builtin .len, args := #[.tmp 22], argTypes := #[75] }, _, _, _, none⟩ hS ?_
          refine tV 3 ⟨some 24, .binOp .lss 3 (.tmp 21) (.tmp 23) 3, _, _, _, none⟩ hS ?_
          refine tV 4 ⟨some 25, .move (.tmp 24), _, _, _, none⟩ hS ?_
          refine tU 5 ⟨some 26, .move (.tmp 6), _, _, _, some (4, true)⟩ hS ?_
          refine tU 6 ⟨some 27, .move (.tmp 8), _, _, _, some (4, true)⟩ hS ?_
          refine tU 7 ⟨some 28, .indexAddr 75 (.tmp 26) (.tmp 27), _, _, _, some (4, true)⟩ hS ?_
          refine tU 8 ⟨some 29, .load 9 (.tmp 28), _, _, _, some (4, true)⟩ hS ?_
          refine tU 9 ⟨some 30, .move (.tmp 5), _, _, _, some (4, true)⟩ hS ?_
          refine tU 10 ⟨some 31, .move (.tmp 7), _, _, _, some (4, true)⟩ hS ?_
          refine tU 11 ⟨some 32, .indexAddr 75 (.tmp 30) (.tmp 31), _, _, _, some (4, true)⟩ hS ?_
          refine tU 12 ⟨some 33, .load 9 (.tmp 32), _, _, _, some (4, true)⟩ hS ?_
          refine tU 13 ⟨some 34, .call { callee := .value (.func 18), args := #[.tmp 29, .tmp 33], argTypes := #[9, 9] }, _, _, _, some (4, true)⟩ hS ?_
          refine tU 14 ⟨some 35, .binOp .leq 3 (.tmp 34) (.const (.int .i64 0)) 3, _, _, _, some (4, true)⟩ hS ?_
          refine tV 15 ⟨some 36, .pick (.tmp 25) (.tmp 35) (.const (.bool false)), _, _, _, none⟩ hS ?_
          refine wpAnyH_done (by kernel_rfl) ?_ _
          all_goals
            clear hS
            replace hE := hE.drew
        all_goals
          cases isb with
          | true =>
            rw [if_pos (by have := Hisb.out; simpa [List.contains_iff_mem] using this.symm)] at Hins
            go_wp2
            go_roundw
            case rel => exact ⟨k + 1, _, _, out, hlt, by first | rfl | simp, by rw [Hst.out, Hins.out], rfl, hE⟩
            case measure => simp [intOf] <;> omega
          | false =>
            rw [if_neg (by have := Hisb.out; simpa [List.contains_iff_mem] using this.symm)] at Hins
            obtain ⟨hs1, hs2, hr1, hr2⟩ := row_parts hE hjl
            have Hr1 := SL.hid hr1
            have Hr2 := SL.hid hr2
            clear hr1 hr2
            have T1 := SL.hid True.intro
            have T2 := SL.hid True.intro
            go_wp2_with (first
              | go_skip
              | ((with_reducible (show Go.wpList _ _ _ (Go.Oper.mk _ (.call { callee := .builtin .append, args := _, argTypes := _ }) _ _ _ _ :: _) _ _)); clear T1; refine wpl_appendG (hE.nil 9 1) 0 rfl rfl rfl rfl rfl Tryd.underlying75 info_str (by decide) (m := j) (news := (out.take j).map strv) (Hr1.out _ hE) (by simp; omega) strv_one (by omega) (by omega) ?_; have h2 := fun w h => atCell (t := 9) (P := Tryd.prog) (f2.out w h) (by simp [go_sem]); clear hE; intro a5 c5 w8 hE; simp only [List.set_cons_zero, List.nil_append, Nat.zero_add] at hE; replace h2 := h2 _ hE.tail)
              | ((with_reducible (show Go.wpList _ _ _ (Go.Oper.mk _ (.call { callee := .builtin .append, args := _, argTypes := _ }) _ _ _ _ :: _) _ _)); clear T2 h2; have hE9 := hE.alloc (.cells #[.string ⟨key.toArray⟩] 9); refine wpl_appendG hE9 1 rfl rfl rfl rfl rfl Tryd.underlying75 info_str (by decide) (m := 1) (news := [strv key]) (reads_pt hE9 0 rfl (off := 0) (fun j u hu => by rw [Nat.zero_add, List.getElem?_toArray]; exact hu)) rfl (by simp [strv, Value.oneCell']) (by omega) (by omega) ?_; clear hE9 hE; intro a6 c6 w9 hE10; simp only [List.set_cons_zero, List.set_cons_succ] at hE10; have hE := hE10.tail; clear hE10)
              | ((with_reducible (show Go.wpList _ _ _ (Go.Oper.mk _ (.call { callee := .builtin .append, args := _, argTypes := _ }) _ _ _ _ :: _) _ _)); refine wpl_appendG hE 0 rfl rfl rfl rfl rfl Tryd.underlying75 info_str (by decide) (m := out.length - j) (news := (out.drop j).map strv) (Hr2.out _ hE.tail) (by simp) strv_one (by omega) (by omega) ?_; clear hE; intro a7 c7 w10 hE; simp only [List.set_cons_zero] at hE))
            go_roundw
            case rel =>
              have e1 : j + 1 + (out.length - j) = (List.take j out ++ key :: List.drop j out).length := by simp; omega
              have e2 : (List.take j out).map strv ++ [strv key] ++ (List.drop j out).map strv = (List.take j out ++ key :: List.drop j out).map strv := by simp
              rw [e1, e2] at hE
              exact ⟨k + 1, a7, c7, out.take j ++ key :: out.drop j, hlt, by first | rfl | simp, by rw [Hst.out, Hins.out], by rw [e1], hE.erase 1⟩
            case measure => simp [intOf] <;> omega
    · obtain rfl : k = all.length := by omega
      rw [List.take_length] at hout
      subst hout
      obtain ⟨m, hl⟩ := hl
      subst hl
      go_wp2
      go_ret
      exact ⟨_, rfl, a3, c3, m, rfl, hE⟩
end Go.Proofs.YtcpgelpajppgdaaDoor
namespace Go.Proofs.YtcpgelpajppgdaaDoor
open Go.RowKit Go.SL

/-- a pointer to what there is -/
def ptrE {α : Type} (L : List HProp) (enc : α → List Value) : Option α → Value → Prop
  | none, p => p = .pointer none
  | some x, p => ∃ b off, p = .pointer (some ⟨b, off, none⟩) ∧ ∀ w, Ent L w → ∀ j v, (enc x)[j]? = some v → w.cell? ⟨b, off + j, none⟩ = some v
theorem ord_cases (p q : List UInt8) : (ordP p q = -1 ∧ lessP p q = true) ∨ (ordP p q = 1 ∧ lessP p q = false ∧ lessP q p = true) ∨ (ordP p q = 0 ∧ lessP p q = false ∧ lessP q p = false) := by
  unfold ordP
  cases h1 : lessP p q <;> cases h2 : lessP q p <;> simp
def lenV : Value → Nat
  | .slice _ n _ => n
  | _ => 0
/-- the first of a row, and the rest -/
theorem row_en {L : List HProp} {ao : Option Addr} {c : Nat} {x : En} {xs : List En} (hc : xs.length + 1 ≤ c) (h : Knows L (reads (.slice ao (x :: xs).length c) (x :: xs).length ((x :: xs).flatMap enC))) {w : World} (hE : Ent L w) :
    ∃ b off, ao = some ⟨b, off, none⟩ ∧ ptrE L enC (some x) (.pointer (some ⟨b, off, none⟩)) ∧ Knows L (reads (.slice (cutAt 3 (some ⟨b, off, none⟩) c 1) xs.length (c - 1)) xs.length (xs.flatMap enC)) ∧
      (∀ w, (Instr.sliceAt 22 (.slice (some ⟨b, off, none⟩) (xs.length + 1) c) (some (.int .i64 1)) none none).run Tryd.prog w = .ok (.slice (cutAt 3 (some ⟨b, off, none⟩) c 1) xs.length (c - 1)) w) ∧
      (∀ w, Ent L w → (Instr.loadAt 63 (.pointer (some ⟨b, off, none⟩))).run Tryd.prog w = .ok (.agg (enC x).toArray) w) := by
  obtain ⟨b, off, rfl, hz⟩ := en_at (h _ hE) (k := 0) (by simp)
  have key : ∀ w, Ent L w → ∀ j v, (enC x)[j]? = some v → w.cell? ⟨b, off + j, none⟩ = some v := fun w hw j v hj => by
    obtain ⟨b', off', e, h2⟩ := en_at (h _ hw) (k := 0) (by simp)
    cases e
    have := h2 j v hj
    simpa using this
  refine ⟨b, off, rfl, ⟨b, off, rfl, key⟩, fun w hw => ?_, fun w => ?_, fun w hw => ?_⟩
  · have := reads_behind (size := 3) (h w hw) (enC_flat_len _) (by simpa using hc) (k := 1) (by simp)
    rw [Nat.one_mul, show (x :: xs).length - 1 = xs.length from rfl, List.flatMap_cons, show ((enC x) ++ xs.flatMap enC).drop 3 = xs.flatMap enC from List.drop_left' rfl] at this
    exact this
  · rw [sliceAt_slice Tryd.underlying22, show (1 : Int) = ((1 : Nat) : Int) from rfl, run_cut_lo Tryd.underlying22 Tryd.sizeOf63 _ _ c .i64 1 (by omega)]
    rfl
  · exact atCells Tryd.isAgg63 Tryd.sizeOf63 (enC x) rfl (fun j v hv => by rw [Addr.add_lit]; exact key w hw j v hv)
/-- the first of a row, and the rest -/
theorem row_ch {L : List HProp} {ao : Option Addr} {c : Nat} {x : Ch} {xs : List Ch} (hc : xs.length + 1 ≤ c) (h : Knows L (reads (.slice ao (x :: xs).length c) (x :: xs).length ((x :: xs).flatMap chC))) {w : World} (hE : Ent L w) :
    ∃ b off, ao = some ⟨b, off, none⟩ ∧ ptrE L chC (some x) (.pointer (some ⟨b, off, none⟩)) ∧ Knows L (reads (.slice (cutAt 7 (some ⟨b, off, none⟩) c 1) xs.length (c - 1)) xs.length (xs.flatMap chC)) ∧
      (∀ w, (Instr.sliceAt 30 (.slice (some ⟨b, off, none⟩) (xs.length + 1) c) (some (.int .i64 1)) none none).run Tryd.prog w = .ok (.slice (cutAt 7 (some ⟨b, off, none⟩) c 1) xs.length (c - 1)) w) ∧
      (∀ w, Ent L w → (Instr.loadAt 65 (.pointer (some ⟨b, off, none⟩))).run Tryd.prog w = .ok (.agg (chC x).toArray) w) := by
  obtain ⟨b, off, rfl, hz⟩ := ch_at (h _ hE) (k := 0) (by simp)
  have key : ∀ w, Ent L w → ∀ j v, (chC x)[j]? = some v → w.cell? ⟨b, off + j, none⟩ = some v := fun w hw j v hj => by
    obtain ⟨b', off', e, h2⟩ := ch_at (h _ hw) (k := 0) (by simp)
    cases e
    have := h2 j v hj
    simpa using this
  refine ⟨b, off, rfl, ⟨b, off, rfl, key⟩, fun w hw => ?_, fun w => ?_, fun w hw => ?_⟩
  · have := reads_behind (size := 7) (h w hw) (chC_flat_len _) (by simpa using hc) (k := 1) (by simp)
    rw [Nat.one_mul, show (x :: xs).length - 1 = xs.length from rfl, List.flatMap_cons, show ((chC x) ++ xs.flatMap chC).drop 7 = xs.flatMap chC from List.drop_left' rfl] at this
    exact this
  · rw [sliceAt_slice Tryd.underlying30, show (1 : Int) = ((1 : Nat) : Int) from rfl, run_cut_lo Tryd.underlying30 Tryd.sizeOf65 _ _ c .i64 1 (by omega)]
    rfl
  · exact atCells Tryd.isAgg65 Tryd.sizeOf65 (chC x) rfl (fun j v hv => by rw [Addr.add_lit]; exact key w hw j v hv)
set_option maxRecDepth 100000 in
theorem changed_any (x : Ch) {l : List HProp} {w : World} (hE : Ent l w) :
    Calls Tryd.prog 44 #[.agg (chC x).toArray] w (Ret fun v w' => v = .string ⟨x.path.toArray⟩ ∧ Ent l w') := by
  simp only [chC]
  go_enter Tryd.func44, Tryd.ntmps44
  go_wp2_with (first
    | go_skip
    | ((with_reducible (show Go.wpList _ _ _ (Go.Oper.mk _ (.box _ _) _ _ _ _ :: _) _ _)); refine wpl_box hE rfl rfl rfl ?_; clear hE; intro b1 w hE; simp only [Act.eval, Act.put, List.setIfInBounds_toArray, List.set_cons_zero, List.set_cons_succ, getD_lit, List.getD_cons_succ, List.getD_cons_zero, Value.cells] at hE)
    | ((with_reducible (show Go.wpList _ _ _ (Go.Oper.mk _ (.load _ _) _ _ _ _ :: _) _ _)); (first | (refine wpl_load1 hE 0 rfl rfl rfl rfl (by simp [go_sem]) rfl ?_) | (refine wpl_load1 hE 1 rfl rfl rfl rfl (by simp [go_sem]) rfl ?_) | (refine wpl_load1 hE 2 rfl rfl rfl rfl (by simp [go_sem]) rfl ?_) | (refine wpl_load1 hE 3 rfl rfl rfl rfl (by simp [go_sem]) rfl ?_) | (refine wpl_load1 hE 4 rfl rfl rfl rfl (by simp [go_sem]) rfl ?_) | (refine wpl_load1 hE 5 rfl rfl rfl rfl (by simp [go_sem]) rfl ?_) | (refine wpl_load1 hE 6 rfl rfl rfl rfl (by simp [go_sem]) rfl ?_) | (refine wpl_load1 hE 7 rfl rfl rfl rfl (by simp [go_sem]) rfl ?_))))
  go_ret
  exact ⟨_, rfl, rfl, hE.tail⟩
end Go.Proofs.YtcpgelpajppgdaaDoor
namespace Go.Proofs.YtcpgelpajppgdaaDoor
open Go.RowKit Go.SL

theorem sd_beq (t u d e : Bool) (x y : List UInt8) : ((⟨t, d, x⟩ : Sd) == ⟨u, e, y⟩) = (t == u && (d == e && x == y)) := by
  rw [Bool.eq_iff_iff]
  simp [Sd.mk.injEq]
theorem eqSd (n : Nat) (a b : Sd) (w : World) : (Op.equalIn (n + 2) 36 (.agg (sdC a).toArray) (.agg (sdC b).toArray)).run Tryd.prog w = .ok (a == b) w := by
  obtain ⟨t, d, x⟩ := a
  obtain ⟨u, e, y⟩ := b
  have h := run_equalIn_agg (P := Tryd.prog) (w := w) (n + 1) 36 #[.bool t, .bool d, .string ⟨x.toArray⟩] #[.bool u, .bool e, .string ⟨y.toArray⟩] (by kernel_rfl) (by kernel_rfl)
  refine h.trans ?_
  rw [sd_beq]
  cases hxy : (x == y) <;> cases t <;> cases u <;> cases d <;> cases e <;> simp [go_sem, hxy]
theorem eqSr (n : Nat) (a b : Sd) (w : World) : (Op.equalIn (n + 2) 39 (.agg (sdC a).toArray) (.agg (sdC b).toArray)).run Tryd.prog w = .ok (a == b) w := by
  obtain ⟨t, d, x⟩ := a
  obtain ⟨u, e, y⟩ := b
  have h := run_equalIn_agg (P := Tryd.prog) (w := w) (n + 1) 39 #[.bool t, .bool d, .string ⟨x.toArray⟩] #[.bool u, .bool e, .string ⟨y.toArray⟩] (by kernel_rfl) (by kernel_rfl)
  refine h.trans ?_
  rw [sd_beq]
  cases hxy : (x == y) <;> cases t <;> cases u <;> cases d <;> cases e <;> simp [go_sem, hxy]
attribute [-go_sem] Go.run_equalIn_agg in
theorem eqCh (a b : Ch) (w : World) : (Op.equalIn 10000 65 (.agg (chC a).toArray) (.agg (chC b).toArray)).run Tryd.prog w = .ok (a == b) w := by
  have h := run_equalIn_agg (P := Tryd.prog) (w := w) 9999 65 (chC a).toArray (chC b).toArray (by kernel_rfl) (by kernel_rfl)
  refine h.trans ?_
  have e1 := fun w => eqSd 9997 a.was b.was w
  have e2 := fun w => eqSd 9997 a.now b.now w
  have e : (a == b) = (a.path == b.path && (a.was == b.was && a.now == b.now)) := by
    obtain ⟨p, x, y⟩ := a
    obtain ⟨q, u, v⟩ := b
    rw [Bool.eq_iff_iff]
    simp [Ch.mk.injEq]
  rw [e]
  simp only [sdC] at e1 e2
  cases hp : (a.path == b.path) <;> cases hw : (a.was == b.was) <;> cases hn : (a.now == b.now) <;> rw [hw] at e1 <;> rw [hn] at e2 <;> simp [go_sem, chC, hp, e1, e2]
end Go.Proofs.YtcpgelpajppgdaaDoor
namespace Go.Proofs.YtcpgelpajppgdaaDoor
open Go.RowKit Go.SL

def rowCh (ao : Option Addr) (c : Nat) (xs : List Ch) : HProp := row 65 7 (.slice ao xs.length c) xs.length (xs.flatMap chC)
theorem info_ch : elemInfo Tryd.prog 65 = some (some 7, 7, 64) := by kernel_rfl
theorem zs_ch : zeroSize Tryd.prog 65 = some 7 := by kernel_rfl
theorem ent_facts {L0 : List HProp} {a : En} {b off : Nat} (hx : ∀ w, Ent L0 w → ∀ j v, (enC a)[j]? = some v → w.cell? ⟨b, off + j, none⟩ = some v) {L : List HProp} (hs : L0 <:+ L) : ∀ w, Ent L w → (Instr.loadAt 4 (.pointer (some ⟨b, off + 1, none⟩))).run Tryd.prog w = .ok (.bool a.dir) w ∧ (Instr.loadAt 9 (.pointer (some ⟨b, off + 2, none⟩))).run Tryd.prog w = .ok (.string ⟨a.data.toArray⟩) w := fun w h =>
  ⟨atCell (hx w (h.suf hs) 1 _ rfl) (by simp [go_sem]), atCell (hx w (h.suf hs) 2 _ rfl) (by simp [go_sem])⟩
def diffO (p : Option En × Option En) : Option Ch := chg (keyB En.path En.path p) (sideO p.1) (sideO p.2)
theorem rowCh_add {ao : Option Addr} {c : Nat} {out : List Ch} {x : Ch} : row 65 7 (.slice ao (out.length + 1) c) (out.length + 1) (out.flatMap chC ++ chC x) = rowCh ao c (out ++ [x]) := by
  simp [rowCh]
def D1Post (p1 : Nat) (out' : List Ch) (L0 : List HProp) (w' : World) : Prop := ∃ ao c, Ent (pt p1 (.cells #[.slice ao out'.length c] 30) :: rowCh ao c out' :: L0) w'

set_option maxRecDepth 100000 in
set_option maxHeartbeats 4000000 in
attribute [-go_sem] Instr.loadAt Go.run_equalIn_agg in
theorem diff1_xy {L0 : List HProp} {a : En} {bx ox : Nat} (hx : ∀ w, Ent L0 w → ∀ j v, (enC a)[j]? = some v → w.cell? ⟨bx, ox + j, none⟩ = some v) {b : En} {b_y oy : Nat} (hy : ∀ w, Ent L0 w → ∀ j v, (enC b)[j]? = some v → w.cell? ⟨b_y, oy + j, none⟩ = some v) {p1 : Nat} {ao : Option Addr} {c : Nat} {out : List Ch} (hn : out.length ≤ 1000000) {w : World} (hE : Ent (pt p1 (.cells #[.slice ao out.length c] 30) :: rowCh ao c out :: L0) w) :
    Calls Tryd.prog 32 #[.pointer (some ⟨bx, ox, none⟩), .pointer (some ⟨b_y, oy, none⟩), .pointer (some ⟨p1, 0, none⟩)] w (Ret fun _ w' => D1Post p1 (out ++ (diffO (some a, some b)).toList) L0 w') := by
  have HX := SL.hid hx
  clear hx
  have HY := SL.hid hy
  clear hy
  have hEq : ∀ w, (Op.equalIn 10000 36 (.agg #[.bool true, .bool a.dir, .string ⟨a.data.toArray⟩]) (.agg #[.bool true, .bool b.dir, .string ⟨b.data.toArray⟩])).run Tryd.prog w = .ok ((⟨true, a.dir, a.data⟩ : Sd) == ⟨true, b.dir, b.data⟩) w := fun w => eqSd 9998 ⟨true, a.dir, a.data⟩ ⟨true, b.dir, b.data⟩ w
  have HR := SL.hid (show diffO (some a, some b) = if ((⟨true, a.dir, a.data⟩ : Sd) == ⟨true, b.dir, b.data⟩) = true then none else some ⟨a.path, ⟨true, a.dir, a.data⟩, ⟨true, b.dir, b.data⟩⟩ by by_cases h : (⟨true, a.dir, a.data⟩ : Sd) = ⟨true, b.dir, b.data⟩ <;> simp [diffO, keyB, sideO, chg, h])
  generalize ((⟨true, a.dir, a.data⟩ : Sd) == ⟨true, b.dir, b.data⟩) = eq at *
  have T1 := SL.hid True.intro
  cases eq with
  | true =>
    rw [if_pos rfl] at HR
    go_enter Tryd.func32, Tryd.ntmps32
    go_wp2_with (first
      | go_skip
      | (clear T1; (go_at_call 33; have H := entry_some (x := a) (b := bx) (off := ox) (ent_facts HX.out sfx) hE; refine H.mono ?_; clear H; rintro e w2 ⟨v, h1, h2, hE⟩; cases h1; cases h2; try simp only [sdV]))
      | (go_at_call 33; have H := entry_some (x := b) (b := b_y) (off := oy) (ent_facts HY.out sfx) hE; refine H.mono ?_; clear H; rintro e w2 ⟨v, h1, h2, hE⟩; cases h1; cases h2; try simp only [sdV])
      | ((with_reducible (show Go.wpList _ _ _ (Go.Oper.mk _ (.alloc _) _ _ _ _ :: _) _ _)); refine wpl_alloc hE rfl rfl (by simp [go_sem]; rfl) ?_; clear hE; intro b5 w hE; simp only [Act.eval, Act.put, List.setIfInBounds_toArray, List.set_cons_zero, List.set_cons_succ, getD_lit, List.getD_cons_succ, List.getD_cons_zero, Value.cells] at hE)
      | ((with_reducible (show Go.wpList _ _ _ (Go.Oper.mk _ (.store 65 _ _) _ _ _ _ :: _) _ _)); refine wpl_storeW hE 0 rfl rfl rfl (xs := [.string ⟨#[]⟩, .bool true, .bool a.dir, .string ⟨a.data.toArray⟩, .bool true, .bool b.dir, .string ⟨b.data.toArray⟩]) rfl rfl Tryd.sizeOf65 rfl (by simp [Value.oneCell']) rfl ?_; clear hE; intro w8 hE; simp only [List.set_cons_zero] at hE; have hp := atCell (t := 9) (P := Tryd.prog) (HX.out _ (hE.suf sfx) 0 _ rfl) (by simp [go_sem]); simp only [Nat.add_zero] at hp)
      | ((with_reducible (show Go.wpList _ _ _ (Go.Oper.mk _ (.store 9 _ _) _ _ _ _ :: _) _ _)); clear hp; refine wpl_st1 hE 0 rfl rfl rfl rfl rfl (by first | (simp [go_sem]; done) | (simp [go_sem]; rfl)) rfl rfl (by simp) ?_; clear hE; intro w7 hE; simp only [List.set_cons_zero, List.set_cons_succ] at hE)
      | ((with_reducible (show Go.wpList _ _ _ (Go.Oper.mk _ (.load 36 _) _ _ _ _ :: _) _ _)); first | refine wpl_loadA hE 0 rfl rfl rfl (off := 1) rfl Tryd.isAgg36 Tryd.sizeOf36 [.bool true, .bool a.dir, .string ⟨a.data.toArray⟩] rfl (fun j hj => by match j, hj with | 0, _ => rfl | 1, _ => rfl | 2, _ => rfl) ?_ | refine wpl_loadA hE 0 rfl rfl rfl (off := 4) rfl Tryd.isAgg36 Tryd.sizeOf36 [.bool true, .bool b.dir, .string ⟨b.data.toArray⟩] rfl (fun j hj => by match j, hj with | 0, _ => rfl | 1, _ => rfl | 2, _ => rfl) ?_)
      | ((with_reducible (show Go.wpList _ _ _ (Go.Oper.mk _ (.load 30 _) _ _ _ _ :: _) _ _)); refine wpl_load1 hE 1 rfl rfl rfl rfl (by simp [go_sem]) rfl ?_)
      | ((with_reducible (show Go.wpList _ _ _ (Go.Oper.mk _ (.load 65 _) _ _ _ _ :: _) _ _)); refine wpl_loadW hE 0 rfl rfl rfl rfl Tryd.isAgg65 Tryd.sizeOf65 rfl ?_)
      | ((with_reducible (show Go.wpList _ _ _ (Go.Oper.mk _ (.buildSlice _ _ _) _ _ _ _ :: _) _ _)); refine wpl_build1 hE rfl rfl (xs := chC ⟨a.path, ⟨true, a.dir, a.data⟩, ⟨true, b.dir, b.data⟩⟩) rfl Tryd.underlying30 zs_ch Tryd.sizeOf65 (by decide) (by decide) rfl ?_; clear hE; intro b9 w3 hE)
      | ((with_reducible (show Go.wpList _ _ _ (Go.Oper.mk _ (.call { callee := .builtin .append, args := _, argTypes := _ }) _ _ _ _ :: _) _ _)); refine wpl_appendG hE 3 rfl rfl rfl rfl rfl Tryd.underlying30 info_ch (by decide) (m := 1) (news := chC ⟨a.path, ⟨true, a.dir, a.data⟩, ⟨true, b.dir, b.data⟩⟩) (reads_pt hE 0 rfl (off := 0) (fun j u hu => by rw [Nat.zero_add, List.getElem?_toArray]; exact hu)) rfl (chC_one _) (by omega) (by omega) ?_; clear hE; intro a7 c7 w6 hE; simp only [List.set_cons_zero, List.set_cons_succ] at hE)
      | ((with_reducible (show Go.wpList _ _ _ (Go.Oper.mk _ (.store 30 _ _) _ _ _ _ :: _) _ _)); refine wpl_st1 hE 2 rfl rfl rfl rfl rfl (by first | (simp [go_sem]; done) | (simp [go_sem]; rfl)) rfl rfl (by simp) ?_; clear hE; intro w7 hE; simp only [List.set_cons_zero, List.set_cons_succ] at hE))
    refine bodyPost_ret (results_none rfl _ _ _) rfl ?_
    exact ⟨_, rfl, ao, c, by rw [HR.out]; simpa using hE.tail⟩
  | false =>
    rw [if_neg (by decide)] at HR
    go_enter Tryd.func32, Tryd.ntmps32
    go_wp2_with (first
      | go_skip
      | (clear T1; (go_at_call 33; have H := entry_some (x := a) (b := bx) (off := ox) (ent_facts HX.out sfx) hE; refine H.mono ?_; clear H; rintro e w2 ⟨v, h1, h2, hE⟩; cases h1; cases h2; try simp only [sdV]))
      | (go_at_call 33; have H := entry_some (x := b) (b := b_y) (off := oy) (ent_facts HY.out sfx) hE; refine H.mono ?_; clear H; rintro e w2 ⟨v, h1, h2, hE⟩; cases h1; cases h2; try simp only [sdV])
      | ((with_reducible (show Go.wpList _ _ _ (Go.Oper.mk _ (.alloc _) _ _ _ _ :: _) _ _)); refine wpl_alloc hE rfl rfl (by simp [go_sem]; rfl) ?_; clear hE; intro b5 w hE; simp only [Act.eval, Act.put, List.setIfInBounds_toArray, List.set_cons_zero, List.set_cons_succ, getD_lit, List.getD_cons_succ, List.getD_cons_zero, Value.cells] at hE)
      | ((with_reducible (show Go.wpList _ _ _ (Go.Oper.mk _ (.store 65 _ _) _ _ _ _ :: _) _ _)); refine wpl_storeW hE 0 rfl rfl rfl (xs := [.string ⟨#[]⟩, .bool true, .bool a.dir, .string ⟨a.data.toArray⟩, .bool true, .bool b.dir, .string ⟨b.data.toArray⟩]) rfl rfl Tryd.sizeOf65 rfl (by simp [Value.oneCell']) rfl ?_; clear hE; intro w8 hE; simp only [List.set_cons_zero] at hE; have hp := atCell (t := 9) (P := Tryd.prog) (HX.out _ (hE.suf sfx) 0 _ rfl) (by simp [go_sem]); simp only [Nat.add_zero] at hp)
      | ((with_reducible (show Go.wpList _ _ _ (Go.Oper.mk _ (.store 9 _ _) _ _ _ _ :: _) _ _)); clear hp; refine wpl_st1 hE 0 rfl rfl rfl rfl rfl (by first | (simp [go_sem]; done) | (simp [go_sem]; rfl)) rfl rfl (by simp) ?_; clear hE; intro w7 hE; simp only [List.set_cons_zero, List.set_cons_succ] at hE)
      | ((with_reducible (show Go.wpList _ _ _ (Go.Oper.mk _ (.load 36 _) _ _ _ _ :: _) _ _)); first | refine wpl_loadA hE 0 rfl rfl rfl (off := 1) rfl Tryd.isAgg36 Tryd.sizeOf36 [.bool true, .bool a.dir, .string ⟨a.data.toArray⟩] rfl (fun j hj => by match j, hj with | 0, _ => rfl | 1, _ => rfl | 2, _ => rfl) ?_ | refine wpl_loadA hE 0 rfl rfl rfl (off := 4) rfl Tryd.isAgg36 Tryd.sizeOf36 [.bool true, .bool b.dir, .string ⟨b.data.toArray⟩] rfl (fun j hj => by match j, hj with | 0, _ => rfl | 1, _ => rfl | 2, _ => rfl) ?_)
      | ((with_reducible (show Go.wpList _ _ _ (Go.Oper.mk _ (.load 30 _) _ _ _ _ :: _) _ _)); refine wpl_load1 hE 1 rfl rfl rfl rfl (by simp [go_sem]) rfl ?_)
      | ((with_reducible (show Go.wpList _ _ _ (Go.Oper.mk _ (.load 65 _) _ _ _ _ :: _) _ _)); refine wpl_loadW hE 0 rfl rfl rfl rfl Tryd.isAgg65 Tryd.sizeOf65 rfl ?_)
      | ((with_reducible (show Go.wpList _ _ _ (Go.Oper.mk _ (.buildSlice _ _ _) _ _ _ _ :: _) _ _)); refine wpl_build1 hE rfl rfl (xs := chC ⟨a.path, ⟨true, a.dir, a.data⟩, ⟨true, b.dir, b.data⟩⟩) rfl Tryd.underlying30 zs_ch Tryd.sizeOf65 (by decide) (by decide) rfl ?_; clear hE; intro b9 w3 hE)
      | ((with_reducible (show Go.wpList _ _ _ (Go.Oper.mk _ (.call { callee := .builtin .append, args := _, argTypes := _ }) _ _ _ _ :: _) _ _)); refine wpl_appendG hE 3 rfl rfl rfl rfl rfl Tryd.underlying30 info_ch (by decide) (m := 1) (news := chC ⟨a.path, ⟨true, a.dir, a.data⟩, ⟨true, b.dir, b.data⟩⟩) (reads_pt hE 0 rfl (off := 0) (fun j u hu => by rw [Nat.zero_add, List.getElem?_toArray]; exact hu)) rfl (chC_one _) (by omega) (by omega) ?_; clear hE; intro a7 c7 w6 hE; simp only [List.set_cons_zero, List.set_cons_succ] at hE)
      | ((with_reducible (show Go.wpList _ _ _ (Go.Oper.mk _ (.store 30 _ _) _ _ _ _ :: _) _ _)); refine wpl_st1 hE 2 rfl rfl rfl rfl rfl (by first | (simp [go_sem]; done) | (simp [go_sem]; rfl)) rfl rfl (by simp) ?_; clear hE; intro w7 hE; simp only [List.set_cons_zero, List.set_cons_succ] at hE))
    refine bodyPost_ret (results_none rfl _ _ _) rfl ?_
    refine ⟨_, rfl, a7, c7, ?_⟩
    rw [HR.out]
    simp only [Option.toList, List.length_append, List.length_singleton]
    rw [← rowCh_add]
    exact hE.tail.tail
set_option maxRecDepth 100000 in
set_option maxHeartbeats 4000000 in
attribute [-go_sem] Instr.loadAt Go.run_equalIn_agg in
theorem diff1_x {L0 : List HProp} {a : En} {bx ox : Nat} (hx : ∀ w, Ent L0 w → ∀ j v, (enC a)[j]? = some v → w.cell? ⟨bx, ox + j, none⟩ = some v) {p1 : Nat} {ao : Option Addr} {c : Nat} {out : List Ch} (hn : out.length ≤ 1000000) {w : World} (hE : Ent (pt p1 (.cells #[.slice ao out.length c] 30) :: rowCh ao c out :: L0) w) :
    Calls Tryd.prog 32 #[.pointer (some ⟨bx, ox, none⟩), .pointer none, .pointer (some ⟨p1, 0, none⟩)] w (Ret fun _ w' => D1Post p1 (out ++ (diffO (some a, none)).toList) L0 w') := by
  have HX := SL.hid hx
  clear hx
  have hEq : ∀ w, (Op.equalIn 10000 36 (.agg #[.bool true, .bool a.dir, .string ⟨a.data.toArray⟩]) (.agg #[.bool false, .bool false, .string ⟨#[]⟩])).run Tryd.prog w = .ok ((⟨true, a.dir, a.data⟩ : Sd) == .no) w := fun w => eqSd 9998 ⟨true, a.dir, a.data⟩ .no w
  have HR := SL.hid (show diffO (some a, none) = if ((⟨true, a.dir, a.data⟩ : Sd) == .no) = true then none else some ⟨a.path, ⟨true, a.dir, a.data⟩, .no⟩ by by_cases h : (⟨true, a.dir, a.data⟩ : Sd) = .no <;> simp [diffO, keyB, sideO, chg, h])
  generalize ((⟨true, a.dir, a.data⟩ : Sd) == .no) = eq at *
  have T1 := SL.hid True.intro
  cases eq with
  | true =>
    rw [if_pos rfl] at HR
    go_enter Tryd.func32, Tryd.ntmps32
    go_wp2_with (first
      | go_skip
      | (clear T1; (go_at_call 33; have H := entry_some (x := a) (b := bx) (off := ox) (ent_facts HX.out sfx) hE; refine H.mono ?_; clear H; rintro e w2 ⟨v, h1, h2, hE⟩; cases h1; cases h2; try simp only [sdV]))
      | (go_at_call 33; have H := entry_nil hE; refine H.mono ?_; clear H; rintro e w2 ⟨v, h1, h2, hE⟩; cases h1; cases h2; try simp only [sdV, Sd.no])
      | ((with_reducible (show Go.wpList _ _ _ (Go.Oper.mk _ (.alloc _) _ _ _ _ :: _) _ _)); refine wpl_alloc hE rfl rfl (by simp [go_sem]; rfl) ?_; clear hE; intro b5 w hE; simp only [Act.eval, Act.put, List.setIfInBounds_toArray, List.set_cons_zero, List.set_cons_succ, getD_lit, List.getD_cons_succ, List.getD_cons_zero, Value.cells] at hE)
      | ((with_reducible (show Go.wpList _ _ _ (Go.Oper.mk _ (.store 65 _ _) _ _ _ _ :: _) _ _)); refine wpl_storeW hE 0 rfl rfl rfl (xs := [.string ⟨#[]⟩, .bool true, .bool a.dir, .string ⟨a.data.toArray⟩, .bool false, .bool false, .string ⟨#[]⟩]) rfl rfl Tryd.sizeOf65 rfl (by simp [Value.oneCell']) rfl ?_; clear hE; intro w8 hE; simp only [List.set_cons_zero] at hE; have hp := atCell (t := 9) (P := Tryd.prog) (HX.out _ (hE.suf sfx) 0 _ rfl) (by simp [go_sem]); simp only [Nat.add_zero] at hp)
      | ((with_reducible (show Go.wpList _ _ _ (Go.Oper.mk _ (.store 9 _ _) _ _ _ _ :: _) _ _)); clear hp; refine wpl_st1 hE 0 rfl rfl rfl rfl rfl (by first | (simp [go_sem]; done) | (simp [go_sem]; rfl)) rfl rfl (by simp) ?_; clear hE; intro w7 hE; simp only [List.set_cons_zero, List.set_cons_succ] at hE)
      | ((with_reducible (show Go.wpList _ _ _ (Go.Oper.mk _ (.load 36 _) _ _ _ _ :: _) _ _)); first | refine wpl_loadA hE 0 rfl rfl rfl (off := 1) rfl Tryd.isAgg36 Tryd.sizeOf36 [.bool true, .bool a.dir, .string ⟨a.data.toArray⟩] rfl (fun j hj => by match j, hj with | 0, _ => rfl | 1, _ => rfl | 2, _ => rfl) ?_ | refine wpl_loadA hE 0 rfl rfl rfl (off := 4) rfl Tryd.isAgg36 Tryd.sizeOf36 [.bool false, .bool false, .string ⟨#[]⟩] rfl (fun j hj => by match j, hj with | 0, _ => rfl | 1, _ => rfl | 2, _ => rfl) ?_)
      | ((with_reducible (show Go.wpList _ _ _ (Go.Oper.mk _ (.load 30 _) _ _ _ _ :: _) _ _)); refine wpl_load1 hE 1 rfl rfl rfl rfl (by simp [go_sem]) rfl ?_)
      | ((with_reducible (show Go.wpList _ _ _ (Go.Oper.mk _ (.load 65 _) _ _ _ _ :: _) _ _)); refine wpl_loadW hE 0 rfl rfl rfl rfl Tryd.isAgg65 Tryd.sizeOf65 rfl ?_)
      | ((with_reducible (show Go.wpList _ _ _ (Go.Oper.mk _ (.buildSlice _ _ _) _ _ _ _ :: _) _ _)); refine wpl_build1 hE rfl rfl (xs := chC ⟨a.path, ⟨true, a.dir, a.data⟩, .no⟩) rfl Tryd.underlying30 zs_ch Tryd.sizeOf65 (by decide) (by decide) rfl ?_; clear hE; intro b9 w3 hE)
      | ((with_reducible (show Go.wpList _ _ _ (Go.Oper.mk _ (.call { callee := .builtin .append, args := _, argTypes := _ }) _ _ _ _ :: _) _ _)); refine wpl_appendG hE 3 rfl rfl rfl rfl rfl Tryd.underlying30 info_ch (by decide) (m := 1) (news := chC ⟨a.path, ⟨true, a.dir, a.data⟩, .no⟩) (reads_pt hE 0 rfl (off := 0) (fun j u hu => by rw [Nat.zero_add, List.getElem?_toArray]; exact hu)) rfl (chC_one _) (by omega) (by omega) ?_; clear hE; intro a7 c7 w6 hE; simp only [List.set_cons_zero, List.set_cons_succ] at hE)
      | ((with_reducible (show Go.wpList _ _ _ (Go.Oper.mk _ (.store 30 _ _) _ _ _ _ :: _) _ _)); refine wpl_st1 hE 2 rfl rfl rfl rfl rfl (by first | (simp [go_sem]; done) | (simp [go_sem]; rfl)) rfl rfl (by simp) ?_; clear hE; intro w7 hE; simp only [List.set_cons_zero, List.set_cons_succ] at hE))
    refine bodyPost_ret (results_none rfl _ _ _) rfl ?_
    exact ⟨_, rfl, ao, c, by rw [HR.out]; simpa using hE.tail⟩
  | false =>
    rw [if_neg (by decide)] at HR
    go_enter Tryd.func32, Tryd.ntmps32
    go_wp2_with (first
      | go_skip
      | (clear T1; (go_at_call 33; have H := entry_some (x := a) (b := bx) (off := ox) (ent_facts HX.out sfx) hE; refine H.mono ?_; clear H; rintro e w2 ⟨v, h1, h2, hE⟩; cases h1; cases h2; try simp only [sdV]))
      | (go_at_call 33; have H := entry_nil hE; refine H.mono ?_; clear H; rintro e w2 ⟨v, h1, h2, hE⟩; cases h1; cases h2; try simp only [sdV, Sd.no])
      | ((with_reducible (show Go.wpList _ _ _ (Go.Oper.mk _ (.alloc _) _ _ _ _ :: _) _ _)); refine wpl_alloc hE rfl rfl (by simp [go_sem]; rfl) ?_; clear hE; intro b5 w hE; simp only [Act.eval, Act.put, List.setIfInBounds_toArray, List.set_cons_zero, List.set_cons_succ, getD_lit, List.getD_cons_succ, List.getD_cons_zero, Value.cells] at hE)
      | ((with_reducible (show Go.wpList _ _ _ (Go.Oper.mk _ (.store 65 _ _) _ _ _ _ :: _) _ _)); refine wpl_storeW hE 0 rfl rfl rfl (xs := [.string ⟨#[]⟩, .bool true, .bool a.dir, .string ⟨a.data.toArray⟩, .bool false, .bool false, .string ⟨#[]⟩]) rfl rfl Tryd.sizeOf65 rfl (by simp [Value.oneCell']) rfl ?_; clear hE; intro w8 hE; simp only [List.set_cons_zero] at hE; have hp := atCell (t := 9) (P := Tryd.prog) (HX.out _ (hE.suf sfx) 0 _ rfl) (by simp [go_sem]); simp only [Nat.add_zero] at hp)
      | ((with_reducible (show Go.wpList _ _ _ (Go.Oper.mk _ (.store 9 _ _) _ _ _ _ :: _) _ _)); clear hp; refine wpl_st1 hE 0 rfl rfl rfl rfl rfl (by first | (simp [go_sem]; done) | (simp [go_sem]; rfl)) rfl rfl (by simp) ?_; clear hE; intro w7 hE; simp only [List.set_cons_zero, List.set_cons_succ] at hE)
      | ((with_reducible (show Go.wpList _ _ _ (Go.Oper.mk _ (.load 36 _) _ _ _ _ :: _) _ _)); first | refine wpl_loadA hE 0 rfl rfl rfl (off := 1) rfl Tryd.isAgg36 Tryd.sizeOf36 [.bool true, .bool a.dir, .string ⟨a.data.toArray⟩] rfl (fun j hj => by match j, hj with | 0, _ => rfl | 1, _ => rfl | 2, _ => rfl) ?_ | refine wpl_loadA hE 0 rfl rfl rfl (off := 4) rfl Tryd.isAgg36 Tryd.sizeOf36 [.bool false, .bool false, .string ⟨#[]⟩] rfl (fun j hj => by match j, hj with | 0, _ => rfl | 1, _ => rfl | 2, _ => rfl) ?_)
      | ((with_reducible (show Go.wpList _ _ _ (Go.Oper.mk _ (.load 30 _) _ _ _ _ :: _) _ _)); refine wpl_load1 hE 1 rfl rfl rfl rfl (by simp [go_sem]) rfl ?_)
      | ((with_reducible (show Go.wpList _ _ _ (Go.Oper.mk _ (.load 65 _) _ _ _ _ :: _) _ _)); refine wpl_loadW hE 0 rfl rfl rfl rfl Tryd.isAgg65 Tryd.sizeOf65 rfl ?_)
      | ((with_reducible (show Go.wpList _ _ _ (Go.Oper.mk _ (.buildSlice _ _ _) _ _ _ _ :: _) _ _)); refine wpl_build1 hE rfl rfl (xs := chC ⟨a.path, ⟨true, a.dir, a.data⟩, .no⟩) rfl Tryd.underlying30 zs_ch Tryd.sizeOf65 (by decide) (by decide) rfl ?_; clear hE; intro b9 w3 hE)
      | ((with_reducible (show Go.wpList _ _ _ (Go.Oper.mk _ (.call { callee := .builtin .append, args := _, argTypes := _ }) _ _ _ _ :: _) _ _)); refine wpl_appendG hE 3 rfl rfl rfl rfl rfl Tryd.underlying30 info_ch (by decide) (m := 1) (news := chC ⟨a.path, ⟨true, a.dir, a.data⟩, .no⟩) (reads_pt hE 0 rfl (off := 0) (fun j u hu => by rw [Nat.zero_add, List.getElem?_toArray]; exact hu)) rfl (chC_one _) (by omega) (by omega) ?_; clear hE; intro a7 c7 w6 hE; simp only [List.set_cons_zero, List.set_cons_succ] at hE)
      | ((with_reducible (show Go.wpList _ _ _ (Go.Oper.mk _ (.store 30 _ _) _ _ _ _ :: _) _ _)); refine wpl_st1 hE 2 rfl rfl rfl rfl rfl (by first | (simp [go_sem]; done) | (simp [go_sem]; rfl)) rfl rfl (by simp) ?_; clear hE; intro w7 hE; simp only [List.set_cons_zero, List.set_cons_succ] at hE))
    refine bodyPost_ret (results_none rfl _ _ _) rfl ?_
    refine ⟨_, rfl, a7, c7, ?_⟩
    rw [HR.out]
    simp only [Option.toList, List.length_append, List.length_singleton]
    rw [← rowCh_add]
    exact hE.tail.tail
set_option maxRecDepth 100000 in
set_option maxHeartbeats 4000000 in
attribute [-go_sem] Instr.loadAt Go.run_equalIn_agg in
theorem diff1_y {L0 : List HProp} {b : En} {b_y oy : Nat} (hy : ∀ w, Ent L0 w → ∀ j v, (enC b)[j]? = some v → w.cell? ⟨b_y, oy + j, none⟩ = some v) {p1 : Nat} {ao : Option Addr} {c : Nat} {out : List Ch} (hn : out.length ≤ 1000000) {w : World} (hE : Ent (pt p1 (.cells #[.slice ao out.length c] 30) :: rowCh ao c out :: L0) w) :
    Calls Tryd.prog 32 #[.pointer none, .pointer (some ⟨b_y, oy, none⟩), .pointer (some ⟨p1, 0, none⟩)] w (Ret fun _ w' => D1Post p1 (out ++ (diffO (none, some b)).toList) L0 w') := by
  have HY := SL.hid hy
  clear hy
  have hEq : ∀ w, (Op.equalIn 10000 36 (.agg #[.bool false, .bool false, .string ⟨#[]⟩]) (.agg #[.bool true, .bool b.dir, .string ⟨b.data.toArray⟩])).run Tryd.prog w = .ok ((.no : Sd) == ⟨true, b.dir, b.data⟩) w := fun w => eqSd 9998 .no ⟨true, b.dir, b.data⟩ w
  have HR := SL.hid (show diffO (none, some b) = if ((.no : Sd) == ⟨true, b.dir, b.data⟩) = true then none else some ⟨b.path, .no, ⟨true, b.dir, b.data⟩⟩ by by_cases h : (.no : Sd) = ⟨true, b.dir, b.data⟩ <;> simp [diffO, keyB, sideO, chg, h])
  generalize ((.no : Sd) == ⟨true, b.dir, b.data⟩) = eq at *
  have T1 := SL.hid True.intro
  cases eq with
  | true =>
    rw [if_pos rfl] at HR
    go_enter Tryd.func32, Tryd.ntmps32
    go_wp2_with (first
      | go_skip
      | (clear T1; (go_at_call 33; have H := entry_nil hE; refine H.mono ?_; clear H; rintro e w2 ⟨v, h1, h2, hE⟩; cases h1; cases h2; try simp only [sdV, Sd.no]))
      | (go_at_call 33; have H := entry_some (x := b) (b := b_y) (off := oy) (ent_facts HY.out sfx) hE; refine H.mono ?_; clear H; rintro e w2 ⟨v, h1, h2, hE⟩; cases h1; cases h2; try simp only [sdV])
      | ((with_reducible (show Go.wpList _ _ _ (Go.Oper.mk _ (.alloc _) _ _ _ _ :: _) _ _)); refine wpl_alloc hE rfl rfl (by simp [go_sem]; rfl) ?_; clear hE; intro b5 w hE; simp only [Act.eval, Act.put, List.setIfInBounds_toArray, List.set_cons_zero, List.set_cons_succ, getD_lit, List.getD_cons_succ, List.getD_cons_zero, Value.cells] at hE)
      | ((with_reducible (show Go.wpList _ _ _ (Go.Oper.mk _ (.store 65 _ _) _ _ _ _ :: _) _ _)); refine wpl_storeW hE 0 rfl rfl rfl (xs := [.string ⟨#[]⟩, .bool false, .bool false, .string ⟨#[]⟩, .bool true, .bool b.dir, .string ⟨b.data.toArray⟩]) rfl rfl Tryd.sizeOf65 rfl (by simp [Value.oneCell']) rfl ?_; clear hE; intro w8 hE; simp only [List.set_cons_zero] at hE; have hp := atCell (t := 9) (P := Tryd.prog) (HY.out _ (hE.suf sfx) 0 _ rfl) (by simp [go_sem]); simp only [Nat.add_zero] at hp)
      | ((with_reducible (show Go.wpList _ _ _ (Go.Oper.mk _ (.store 9 _ _) _ _ _ _ :: _) _ _)); clear hp; refine wpl_st1 hE 0 rfl rfl rfl rfl rfl (by first | (simp [go_sem]; done) | (simp [go_sem]; rfl)) rfl rfl (by simp) ?_; clear hE; intro w7 hE; simp only [List.set_cons_zero, List.set_cons_succ] at hE)
      | ((with_reducible (show Go.wpList _ _ _ (Go.Oper.mk _ (.load 36 _) _ _ _ _ :: _) _ _)); first | refine wpl_loadA hE 0 rfl rfl rfl (off := 1) rfl Tryd.isAgg36 Tryd.sizeOf36 [.bool false, .bool false, .string ⟨#[]⟩] rfl (fun j hj => by match j, hj with | 0, _ => rfl | 1, _ => rfl | 2, _ => rfl) ?_ | refine wpl_loadA hE 0 rfl rfl rfl (off := 4) rfl Tryd.isAgg36 Tryd.sizeOf36 [.bool true, .bool b.dir, .string ⟨b.data.toArray⟩] rfl (fun j hj => by match j, hj with | 0, _ => rfl | 1, _ => rfl | 2, _ => rfl) ?_)
      | ((with_reducible (show Go.wpList _ _ _ (Go.Oper.mk _ (.load 30 _) _ _ _ _ :: _) _ _)); refine wpl_load1 hE 1 rfl rfl rfl rfl (by simp [go_sem]) rfl ?_)
      | ((with_reducible (show Go.wpList _ _ _ (Go.Oper.mk _ (.load 65 _) _ _ _ _ :: _) _ _)); refine wpl_loadW hE 0 rfl rfl rfl rfl Tryd.isAgg65 Tryd.sizeOf65 rfl ?_)
      | ((with_reducible (show Go.wpList _ _ _ (Go.Oper.mk _ (.buildSlice _ _ _) _ _ _ _ :: _) _ _)); refine wpl_build1 hE rfl rfl (xs := chC ⟨b.path, .no, ⟨true, b.dir, b.data⟩⟩) rfl Tryd.underlying30 zs_ch Tryd.sizeOf65 (by decide) (by decide) rfl ?_; clear hE; intro b9 w3 hE)
      | ((with_reducible (show Go.wpList _ _ _ (Go.Oper.mk _ (.call { callee := .builtin .append, args := _, argTypes := _ }) _ _ _ _ :: _) _ _)); refine wpl_appendG hE 3 rfl rfl rfl rfl rfl Tryd.underlying30 info_ch (by decide) (m := 1) (news := chC ⟨b.path, .no, ⟨true, b.dir, b.data⟩⟩) (reads_pt hE 0 rfl (off := 0) (fun j u hu => by rw [Nat.zero_add, List.getElem?_toArray]; exact hu)) rfl (chC_one _) (by omega) (by omega) ?_; clear hE; intro a7 c7 w6 hE; simp only [List.set_cons_zero, List.set_cons_succ] at hE)
      | ((with_reducible (show Go.wpList _ _ _ (Go.Oper.mk _ (.store 30 _ _) _ _ _ _ :: _) _ _)); refine wpl_st1 hE 2 rfl rfl rfl rfl rfl (by first | (simp [go_sem]; done) | (simp [go_sem]; rfl)) rfl rfl (by simp) ?_; clear hE; intro w7 hE; simp only [List.set_cons_zero, List.set_cons_succ] at hE))
    refine bodyPost_ret (results_none rfl _ _ _) rfl ?_
    exact ⟨_, rfl, ao, c, by rw [HR.out]; simpa using hE.tail⟩
  | false =>
    rw [if_neg (by decide)] at HR
    go_enter Tryd.func32, Tryd.ntmps32
    go_wp2_with (first
      | go_skip
      | (clear T1; (go_at_call 33; have H := entry_nil hE; refine H.mono ?_; clear H; rintro e w2 ⟨v, h1, h2, hE⟩; cases h1; cases h2; try simp only [sdV, Sd.no]))
      | (go_at_call 33; have H := entry_some (x := b) (b := b_y) (off := oy) (ent_facts HY.out sfx) hE; refine H.mono ?_; clear H; rintro e w2 ⟨v, h1, h2, hE⟩; cases h1; cases h2; try simp only [sdV])
      | ((with_reducible (show Go.wpList _ _ _ (Go.Oper.mk _ (.alloc _) _ _ _ _ :: _) _ _)); refine wpl_alloc hE rfl rfl (by simp [go_sem]; rfl) ?_; clear hE; intro b5 w hE; simp only [Act.eval, Act.put, List.setIfInBounds_toArray, List.set_cons_zero, List.set_cons_succ, getD_lit, List.getD_cons_succ, List.getD_cons_zero, Value.cells] at hE)
      | ((with_reducible (show Go.wpList _ _ _ (Go.Oper.mk _ (.store 65 _ _) _ _ _ _ :: _) _ _)); refine wpl_storeW hE 0 rfl rfl rfl (xs := [.string ⟨#[]⟩, .bool false, .bool false, .string ⟨#[]⟩, .bool true, .bool b.dir, .string ⟨b.data.toArray⟩]) rfl rfl Tryd.sizeOf65 rfl (by simp [Value.oneCell']) rfl ?_; clear hE; intro w8 hE; simp only [List.set_cons_zero] at hE; have hp := atCell (t := 9) (P := Tryd.prog) (HY.out _ (hE.suf sfx) 0 _ rfl) (by simp [go_sem]); simp only [Nat.add_zero] at hp)
      | ((with_reducible (show Go.wpList _ _ _ (Go.Oper.mk _ (.store 9 _ _) _ _ _ _ :: _) _ _)); clear hp; refine wpl_st1 hE 0 rfl rfl rfl rfl rfl (by first | (simp [go_sem]; done) | (simp [go_sem]; rfl)) rfl rfl (by simp) ?_; clear hE; intro w7 hE; simp only [List.set_cons_zero, List.set_cons_succ] at hE)
      | ((with_reducible (show Go.wpList _ _ _ (Go.Oper.mk _ (.load 36 _) _ _ _ _ :: _) _ _)); first | refine wpl_loadA hE 0 rfl rfl rfl (off := 1) rfl Tryd.isAgg36 Tryd.sizeOf36 [.bool false, .bool false, .string ⟨#[]⟩] rfl (fun j hj => by match j, hj with | 0, _ => rfl | 1, _ => rfl | 2, _ => rfl) ?_ | refine wpl_loadA hE 0 rfl rfl rfl (off := 4) rfl Tryd.isAgg36 Tryd.sizeOf36 [.bool true, .bool b.dir, .string ⟨b.data.toArray⟩] rfl (fun j hj => by match j, hj with | 0, _ => rfl | 1, _ => rfl | 2, _ => rfl) ?_)
      | ((with_reducible (show Go.wpList _ _ _ (Go.Oper.mk _ (.load 30 _) _ _ _ _ :: _) _ _)); refine wpl_load1 hE 1 rfl rfl rfl rfl (by simp [go_sem]) rfl ?_)
      | ((with_reducible (show Go.wpList _ _ _ (Go.Oper.mk _ (.load 65 _) _ _ _ _ :: _) _ _)); refine wpl_loadW hE 0 rfl rfl rfl rfl Tryd.isAgg65 Tryd.sizeOf65 rfl ?_)
      | ((with_reducible (show Go.wpList _ _ _ (Go.Oper.mk _ (.buildSlice _ _ _) _ _ _ _ :: _) _ _)); refine wpl_build1 hE rfl rfl (xs := chC ⟨b.path, .no, ⟨true, b.dir, b.data⟩⟩) rfl Tryd.underlying30 zs_ch Tryd.sizeOf65 (by decide) (by decide) rfl ?_; clear hE; intro b9 w3 hE)
      | ((with_reducible (show Go.wpList _ _ _ (Go.Oper.mk _ (.call { callee := .builtin .append, args := _, argTypes := _ }) _ _ _ _ :: _) _ _)); refine wpl_appendG hE 3 rfl rfl rfl rfl rfl Tryd.underlying30 info_ch (by decide) (m := 1) (news := chC ⟨b.path, .no, ⟨true, b.dir, b.data⟩⟩) (reads_pt hE 0 rfl (off := 0) (fun j u hu => by rw [Nat.zero_add, List.getElem?_toArray]; exact hu)) rfl (chC_one _) (by omega) (by omega) ?_; clear hE; intro a7 c7 w6 hE; simp only [List.set_cons_zero, List.set_cons_succ] at hE)
      | ((with_reducible (show Go.wpList _ _ _ (Go.Oper.mk _ (.store 30 _ _) _ _ _ _ :: _) _ _)); refine wpl_st1 hE 2 rfl rfl rfl rfl rfl (by first | (simp [go_sem]; done) | (simp [go_sem]; rfl)) rfl rfl (by simp) ?_; clear hE; intro w7 hE; simp only [List.set_cons_zero, List.set_cons_succ] at hE))
    refine bodyPost_ret (results_none rfl _ _ _) rfl ?_
    refine ⟨_, rfl, a7, c7, ?_⟩
    rw [HR.out]
    simp only [Option.toList, List.length_append, List.length_singleton]
    rw [← rowCh_add]
    exact hE.tail.tail
end Go.Proofs.YtcpgelpajppgdaaDoor
namespace Go.Proofs.YtcpgelpajppgdaaDoor
open Go.RowKit Go.SL

def rowRc (ao : Option Addr) (c : Nat) (xs : List Ch) : HProp := row 74 7 (.slice ao xs.length c) xs.length (xs.flatMap chC)
theorem info_rch : elemInfo Tryd.prog 74 = some (some 7, 7, 64) := by kernel_rfl
theorem zs_rch : zeroSize Tryd.prog 74 = some 7 := by kernel_rfl
theorem rowRc_add {ao : Option Addr} {c : Nat} {out : List Ch} {x : Ch} : row 74 7 (.slice ao (out.length + 1) c) (out.length + 1) (out.flatMap chC ++ chC x) = rowRc ao c (out ++ [x]) := by
  simp [rowRc]
def rDiffP (a b : List En) : List Ch := (sortK (a.map En.path ++ b.map En.path)).filterMap fun k => chg k (rOf a k) (rOf b k)
def RdRel (all : List (List UInt8)) (F : List UInt8 → Option Ch) (LL : List HProp) (o i : Value) (wr : World) : Prop :=
  ∃ (k : Nat) (ao : Option Addr) (c : Nat) (out : List Ch), k ≤ all.length ∧ i = .int .i64 k ∧ out = (all.take k).filterMap F ∧ o = .slice ao out.length c ∧ Ent (rowRc ao c out :: LL) wr
theorem fm_step {α β : Type} {all : List α} {k : Nat} (h : k < all.length) (F : α → Option β) : (all.take (k + 1)).filterMap F = (all.take k).filterMap F ++ (F all[k]).toList := by
  rw [List.take_succ_eq_append_getElem h, List.filterMap_append]
  cases hf : F all[k] <;> simp [hf]
theorem fm_len {α β : Type} {all : List α} {k : Nat} (F : α → Option β) : ((all.take k).filterMap F).length ≤ all.length := by
  have h1 := List.length_filterMap_le F (all.take k)
  rw [List.length_take] at h1
  omega
end Go.Proofs.YtcpgelpajppgdaaDoor
namespace Go.Proofs.YtcpgelpajppgdaaDoor
open Go.RowKit Go.SL

/-- a change of a row, read whole and in part -/
theorem load_rc {b off c : Nat} {xs : List Ch} {w : World} (hr : reads (.slice (some ⟨b, off, none⟩) xs.length c) xs.length (xs.flatMap chC) w) {k : Nat} (hk : k < xs.length) :
    (Instr.loadAt 74 (.pointer (some ⟨b, off + k * 7, none⟩))).run Tryd.prog w = .ok (.agg (chC xs[k]).toArray) w ∧
    (Instr.loadAt 9 (.pointer (some ⟨b, off + k * 7, none⟩))).run Tryd.prog w = .ok (.string ⟨xs[k].path.toArray⟩) w ∧
    (Instr.loadAt 39 (.pointer (some ⟨b, off + k * 7 + 1, none⟩))).run Tryd.prog w = .ok (.agg (sdC xs[k].was).toArray) w ∧
    (Instr.loadAt 39 (.pointer (some ⟨b, off + k * 7 + 4, none⟩))).run Tryd.prog w = .ok (.agg (sdC xs[k].now).toArray) w := by
  obtain ⟨b', off', e, h⟩ := ch_at hr hk
  cases e
  refine ⟨atCells Tryd.isAgg74 Tryd.sizeOf74 (chC xs[k]) rfl (fun j v hv => by rw [Addr.add_lit]; exact h j v hv), atCell (h 0 _ rfl) (by simp [go_sem]), atCells Tryd.isAgg39 Tryd.sizeOf39 (sdC xs[k].was) rfl (fun j v hv => ?_), atCells Tryd.isAgg39 Tryd.sizeOf39 (sdC xs[k].now) rfl (fun j v hv => ?_)⟩
  · rw [Addr.add_lit, Nat.add_assoc]
    refine h (1 + j) v ?_
    match j, hv with
    | 0, hv => exact hv
    | 1, hv => exact hv
    | 2, hv => exact hv
  · rw [Addr.add_lit, Nat.add_assoc]
    refine h (4 + j) v ?_
    match j, hv with
    | 0, hv => exact hv
    | 1, hv => exact hv
    | 2, hv => exact hv
/-- a change of a row, read whole and in part -/
theorem load_dc {b off c : Nat} {xs : List Ch} {w : World} (hr : reads (.slice (some ⟨b, off, none⟩) xs.length c) xs.length (xs.flatMap chC) w) {k : Nat} (hk : k < xs.length) :
    (Instr.loadAt 65 (.pointer (some ⟨b, off + k * 7, none⟩))).run Tryd.prog w = .ok (.agg (chC xs[k]).toArray) w ∧
    (Instr.loadAt 9 (.pointer (some ⟨b, off + k * 7, none⟩))).run Tryd.prog w = .ok (.string ⟨xs[k].path.toArray⟩) w ∧
    (Instr.loadAt 36 (.pointer (some ⟨b, off + k * 7 + 1, none⟩))).run Tryd.prog w = .ok (.agg (sdC xs[k].was).toArray) w ∧
    (Instr.loadAt 36 (.pointer (some ⟨b, off + k * 7 + 4, none⟩))).run Tryd.prog w = .ok (.agg (sdC xs[k].now).toArray) w := by
  obtain ⟨b', off', e, h⟩ := ch_at hr hk
  cases e
  refine ⟨atCells Tryd.isAgg65 Tryd.sizeOf65 (chC xs[k]) rfl (fun j v hv => by rw [Addr.add_lit]; exact h j v hv), atCell (h 0 _ rfl) (by simp [go_sem]), atCells Tryd.isAgg36 Tryd.sizeOf36 (sdC xs[k].was) rfl (fun j v hv => ?_), atCells Tryd.isAgg36 Tryd.sizeOf36 (sdC xs[k].now) rfl (fun j v hv => ?_)⟩
  · rw [Addr.add_lit, Nat.add_assoc]
    refine h (1 + j) v ?_
    match j, hv with
    | 0, hv => exact hv
    | 1, hv => exact hv
    | 2, hv => exact hv
  · rw [Addr.add_lit, Nat.add_assoc]
    refine h (4 + j) v ?_
    match j, hv with
    | 0, hv => exact hv
    | 1, hv => exact hv
    | 2, hv => exact hv
def LoRel (es : List Ch) (l : List HProp) (o i : Value) (wr : World) : Prop :=
  ∃ (k : Nat) (ao : Option Addr) (c : Nat) (out : List Ch), k ≤ es.length ∧ i = .int .i64 k ∧ out = es.take k ∧ o = .slice ao out.length c ∧ Ent (rowCh ao c out :: l) wr
set_option maxRecDepth 100000 in
set_option maxHeartbeats 4000000 in
attribute [-go_sem] Instr.loadAt in
theorem lOf_any {es : List Ch} (hn : es.length ≤ 100000) {ao : Option Addr} {c : Nat} {l : List HProp} {w : World} (hk : Knows l (reads (.slice ao es.length c) es.length (es.flatMap chC))) (hE : Ent l w) :
    Calls Tryd.prog 12 #[.slice ao es.length c] w (Ret fun v w' => ∃ ao' c', v = .slice ao' es.length c' ∧ Ent (rowCh ao' c' es :: l) w') := by
  go_enter Tryd.func12, Tryd.ntmps12
  go_wp2
  go_loopw [3, 4] (fun o i wr => LoRel es l o i wr) (fun _ i _ => es.length - (intOf i).toNat)
  case atStart => exact ⟨0, none, 0, [], Nat.zero_le _, rfl, rfl, rfl, hE.nil _ _⟩
  case round =>
    clear hE
    obtain ⟨k, a1, c1, out, hkl, rfl, hout, rfl, hE⟩ := hrel
    have hol : out.length ≤ 100000 := by
      rw [hout, List.length_take]
      omega
    by_cases hlt : k < es.length
    · obtain ⟨b, off, rfl, hz⟩ := ch_at (hk _ hE.tail) hlt
      clear hz
      have f0 := SL.hid (show ∀ w, Ent l w → _ from fun w h => load_rc (hk w h) hlt)
      have Hst := SL.hid (List.take_succ_eq_append_getElem hlt)
      rw [← hout] at Hst
      clear hout
      generalize es[k] = x at *
      obtain ⟨xp, ⟨st, sd, sb⟩, ⟨ut, ud, ub⟩⟩ := x
      simp only [chC, sdC] at f0
      have HA := SL.hid (fun (L : List HProp) (w : World) (h : Ent L w) => lside_any ⟨st, sd, sb⟩ h)
      have HB := SL.hid (fun (L : List HProp) (w : World) (h : Ent L w) => lside_any ⟨ut, ud, ub⟩ h)
      simp only [sdV] at HA HB
      go_wp2
      have hO := hE.drew
      refine wp_region_held_drew (S := (fun w' => ((Instr.loadAt 9 (.pointer (some ⟨b, off + k * 7, none⟩))).run Tryd.prog w' = .ok (.string ⟨xp.toArray⟩) w') ∧ ((Instr.loadAt 39 (.pointer (some ⟨b, off + k * 7 + 1, none⟩))).run Tryd.prog w' = .ok (.agg #[.bool st, .bool sd, .string ⟨sb.toArray⟩]) w') ∧ ((Instr.loadAt 39 (.pointer (some ⟨b, off + k * 7 + 4, none⟩))).run Tryd.prog w' = .ok (.agg #[.bool ut, .bool ud, .string ⟨ub.toArray⟩]) w'))) (by kernel_rfl) ⟨(f0.out _ (hO.suf sfx)).2.1, (f0.out _ (hO.suf sfx)).2.2.1, (f0.out _ (hO.suf sfx)).2.2.2⟩ (fun hS => ?_)
      refine tV 0 ⟨some 11, .move (.tmp 3), _, _, _, none⟩ hS ?_
      refine tV 1 ⟨some 12, .move (.tmp 0), _, _, _, none⟩ hS ?_
      refine tV 2 ⟨some 13, .move (.tmp 4), _, _, _, none⟩ hS ?_
      refine tV 3 ⟨some 14, .indexAddr 33 (.tmp 12) (.tmp 13), _, _, _, none⟩ hS ?_
      refine tV 4 ⟨some 15, .fieldAddr 74 (.tmp 14) 0, _, _, _, none⟩ hS ?_
      refine tL 5 ⟨some 16, .load 9 (.tmp 15), _, _, _, none⟩ hS ?_
      refine tV 6 ⟨some 17, .move (.tmp 0), _, _, _, none⟩ hS ?_
      refine tV 7 ⟨some 18, .move (.tmp 4), _, _, _, none⟩ hS ?_
      refine tV 8 ⟨some 19, .indexAddr 33 (.tmp 17) (.tmp 18), _, _, _, none⟩ hS ?_
      refine tV 9 ⟨some 20, .fieldAddr 74 (.tmp 19) 1, _, _, _, none⟩ hS ?_
      refine tL 10 ⟨some 21, .load 39 (.tmp 20), _, _, _, none⟩ hS ?_
      refine tV 12 ⟨some 23, .move (.tmp 0), _, _, _, none⟩ hS ?_
      refine tV 13 ⟨some 24, .move (.tmp 4), _, _, _, none⟩ hS ?_
      refine tV 14 ⟨some 25, .indexAddr 33 (.tmp 23) (.tmp 24), _, _, _, none⟩ hS ?_
      refine tV 15 ⟨some 26, .fieldAddr 74 (.tmp 25) 2, _, _, _, none⟩ hS ?_
      refine tL 16 ⟨some 27, .load 39 (.tmp 26), _, _, _, none⟩ hS ?_
      refine wpAnyH_ready (rs := [11]) (by kernel_rfl) (by simp) ?_
      refine (AllReadyH.cons (o := ⟨some 22, .call { callee := .value (.func 15), args := #[.tmp 21], argTypes := #[39] }, _, _, _, none⟩) rfl (fun K hK => ?_) AllReadyH.nil)
      (go_simp; refine (HA.out _ _ hO).mono ?_; clear hO; rintro e w5 ⟨v, h1, h2, hO⟩; cases h1; cases h2)
      refine hK.out _ _ ⟨(f0.out _ (hO.suf sfx)).2.1, (f0.out _ (hO.suf sfx)).2.2.1, (f0.out _ (hO.suf sfx)).2.2.2⟩ (fun hS => ?_)
      clear hK K
      try simp only [Act.put, sb, s0, sz]
      refine wpAnyH_ready (rs := [17]) (by kernel_rfl) (by simp) ?_
      refine (AllReadyH.cons (o := ⟨some 28, .call { callee := .value (.func 15), args := #[.tmp 27], argTypes := #[39] }, _, _, _, none⟩) rfl (fun K hK => ?_) AllReadyH.nil)
      (go_simp; refine (HB.out _ _ hO).mono ?_; clear hO; rintro e w5 ⟨v, h1, h2, hO⟩; cases h1; cases h2)
      refine hK.out _ _ ⟨(f0.out _ (hO.suf sfx)).2.1, (f0.out _ (hO.suf sfx)).2.2.1, (f0.out _ (hO.suf sfx)).2.2.2⟩ (fun hS => ?_)
      clear hK K
      try simp only [Act.put, sb, s0, sz]
      refine tV 18 ⟨some 29, .build 65 #[(0, .tmp 16), (1, .tmp 22), (2, .tmp 28)], _, _, _, none⟩ hS ?_
      refine wpAnyH_ready (rs := [19]) (by kernel_rfl) (by simp) ?_
      refine (AllReadyH.cons (o := ⟨some 30, .buildSlice 30 1 #[(0, .tmp 29)], _, _, _, none⟩) rfl (fun K hK => ?_) AllReadyH.nil)
      (refine step_build1 hO rfl (by rfl) (xs := chC ⟨xp, ⟨st, sd, sb⟩, ⟨ut, ud, ub⟩⟩) (by rfl) Tryd.underlying30 zs_ch Tryd.sizeOf65 (by decide) (by decide) rfl ?_; clear hO; intro b9 w7 hO)
      refine hK.out _ _ ⟨(f0.out _ (hO.suf sfx)).2.1, (f0.out _ (hO.suf sfx)).2.2.1, (f0.out _ (hO.suf sfx)).2.2.2⟩ (fun hS => ?_)
      clear hK K
      try simp only [Act.put, sb, s0, sz]
      refine wpAnyH_ready (rs := [20]) (by kernel_rfl) (by simp) ?_
      refine (AllReadyH.cons (o := ⟨some 31, .call { callee := .builtin .append, args := #[.tmp 11, .tmp 30], argTypes := #[30, 30] }, _, _, _, none⟩) rfl (fun K hK => ?_) AllReadyH.nil)
      (refine step_appendG hO 1 rfl rfl (by rfl) (by rfl) (by rfl) Tryd.underlying30 info_ch (by decide) (m := 1) (news := chC ⟨xp, ⟨st, sd, sb⟩, ⟨ut, ud, ub⟩⟩) (reads_pt hO 0 rfl (off := 0) (fun j u hu => by rw [Nat.zero_add, List.getElem?_toArray]; exact hu)) rfl (chC_one _) (by omega) (by omega) ?_; clear hO; intro a7 c7 w8 hO; simp only [List.set_cons_zero, List.set_cons_succ] at hO)
      refine hK.out _ _ ⟨(f0.out _ (hO.suf sfx)).2.1, (f0.out _ (hO.suf sfx)).2.2.1, (f0.out _ (hO.suf sfx)).2.2.2⟩ (fun hS => ?_)
      clear hK K
      try simp only [Act.put, sb, s0, sz]
      refine tV 21 ⟨some 3, .assign (.tmp 31), _, _, _, none⟩ hS ?_
      refine wpAnyH_done (by kernel_rfl) ?_ _
      all_goals
        clear hS hE
        have hE := hO.tail
        clear hO
        go_wp2
        go_roundw
        case rel =>
          refine ⟨k + 1, a7, c7, out ++ [⟨xp, ⟨st, sd, sb⟩, ⟨ut, ud, ub⟩⟩], hlt, by first | rfl | simp, by rw [Hst.out], by simp, ?_⟩
          rw [← rowCh_add]
          exact hE
        case measure => simp [intOf] <;> omega
    · obtain rfl : k = es.length := by omega
      rw [List.take_length] at hout
      subst hout
      go_wp2
      go_ret
      exact ⟨_, rfl, a1, c1, rfl, hE⟩
def LrRel (xs ys : List Ch) (l : List HProp) (i : Value) (wr : World) : Prop :=
  ∃ k : Nat, k ≤ xs.length ∧ i = .int .i64 k ∧ xs.take k = ys.take k ∧ Ent l wr
def LrPost (xs ys : List Ch) (l : List HProp) (v : Value) (w' : World) : Prop := v = .bool (decide (xs = ys)) ∧ Ent l w'
theorem LrPost.mk {xs ys : List Ch} {l : List HProp} {w : World} (b : Bool) (hE : Ent l w) (h : b = true ↔ xs = ys) : LrPost xs ys l (.bool b) w := ⟨by rw [show decide (xs = ys) = b by rw [Bool.eq_iff_iff]; simp [h]], hE⟩
set_option maxRecDepth 100000 in
set_option maxHeartbeats 4000000 in
attribute [-go_sem] Instr.loadAt Go.run_equalIn_agg in
theorem lRow_any {xs ys : List Ch} (hn : xs.length ≤ 1000000) {ao bo : Option Addr} {c d : Nat} {l : List HProp} {w : World} (hx : Knows l (reads (.slice ao xs.length c) xs.length (xs.flatMap chC))) (hy : Knows l (reads (.slice bo ys.length d) ys.length (ys.flatMap chC))) (hE : Ent l w) :
    Calls Tryd.prog 10 #[.slice ao xs.length c, .slice bo ys.length d] w (Ret (LrPost xs ys l)) := by
  by_cases hl : xs.length = ys.length
  · have Hl := SL.hid hl
    obtain ⟨n, hn1⟩ : ∃ n, xs.length = n := ⟨_, rfl⟩
    have hn2 : ys.length = n := by omega
    rw [hn1] at hn ⊢
    rw [hn2]
    have N1 := SL.hid hn1
    have N2 := SL.hid hn2
    clear hn1 hn2 hl
    go_enter Tryd.func10, Tryd.ntmps10
    go_wp2
    go_loopw [5] (fun i wr => LrRel xs ys l i wr) (fun i _ => n - (intOf i).toNat)
    case atStart => exact ⟨0, Nat.zero_le _, rfl, rfl, hE⟩
    case round =>
      clear hE
      obtain ⟨k, hkl, rfl, htk, hE⟩ := hrel
      rw [N1.out] at hkl
      by_cases hlt : k < n
      · have hlx : k < xs.length := by have := N1.out; omega
        have hly : k < ys.length := by have := N2.out; omega
        obtain ⟨b, off, rfl, hz⟩ := ch_at (hx _ hE) hlx
        obtain ⟨b2, off2, rfl, hz2⟩ := ch_at (hy _ hE) hly
        clear hz hz2
        have f0 := SL.hid (show ∀ w, Ent l w → _ from fun w h => (load_dc (hx w h) hlx).1)
        have f1 := SL.hid (show ∀ w, Ent l w → _ from fun w h => (load_dc (hy w h) hly).1)
        have Hx := SL.hid (List.take_succ_eq_append_getElem hlx)
        have Hy := SL.hid (List.take_succ_eq_append_getElem hly)
        have Hne := SL.hid (show xs[k] ≠ ys[k] → xs ≠ ys from fun h e => h (by subst e; rfl))
        have hEq := fun w => eqCh xs[k] ys[k] w
        have Htk := SL.hid htk
        clear htk
        generalize xs[k] = x at *
        generalize ys[k] = y at *
        have Hxy := SL.hid (show (x == y) = true ↔ x = y from beq_iff_eq)
        generalize (x == y) = eq at *
        clear hlx hly
        cases eq with
        | true =>
          go_wp2
          refine wp_region_held_drew (S := (fun w' => ((Instr.loadAt 65 (.pointer (some ⟨b, off + k * 7, none⟩))).run Tryd.prog w' = .ok (.agg (chC x).toArray) w') ∧ ((Instr.loadAt 65 (.pointer (some ⟨b2, off2 + k * 7, none⟩))).run Tryd.prog w' = .ok (.agg (chC y).toArray) w'))) (by kernel_rfl) ⟨(f0.out _ hE.drew), (f1.out _ hE.drew)⟩ (fun hS => ?_)
          refine tV 0 ⟨some 17, .move (.tmp 0), _, _, _, none⟩ hS ?_
          refine tV 1 ⟨some 18, .move (.tmp 5), _, _, _, none⟩ hS ?_
          refine tV 2 ⟨some 19, .indexAddr 30 (.tmp 17) (.tmp 18), _, _, _, none⟩ hS ?_
          refine tL 3 ⟨some 20, .load 65 (.tmp 19), _, _, _, none⟩ hS ?_
          refine tV 4 ⟨some 21, .move (.tmp 1), _, _, _, none⟩ hS ?_
          refine tV 5 ⟨some 22, .move (.tmp 5), _, _, _, none⟩ hS ?_
          refine tV 6 ⟨some 23, .indexAddr 30 (.tmp 21) (.tmp 22), _, _, _, none⟩ hS ?_
          refine tL 7 ⟨some 24, .load 65 (.tmp 23), _, _, _, none⟩ hS ?_
          refine tV 8 ⟨some 25, .binOp .neq 65 (.tmp 20) (.tmp 24) 65, _, _, _, none⟩ hS ?_
          refine wpAnyH_done (by kernel_rfl) ?_ _
          all_goals
            clear hS
            replace hE := hE.drew
            go_wp2
            go_roundw
            case rel => exact ⟨k + 1, by rw [N1.out]; exact hlt, by first | rfl | simp, by rw [Hx.out, Hy.out, Htk.out]; have := Hxy.out; simp at this; rw [this], hE⟩
            case measure => simp [intOf] <;> omega
        | false =>
          go_wp2
          refine wp_region_held_drew (S := (fun w' => ((Instr.loadAt 65 (.pointer (some ⟨b, off + k * 7, none⟩))).run Tryd.prog w' = .ok (.agg (chC x).toArray) w') ∧ ((Instr.loadAt 65 (.pointer (some ⟨b2, off2 + k * 7, none⟩))).run Tryd.prog w' = .ok (.agg (chC y).toArray) w'))) (by kernel_rfl) ⟨(f0.out _ hE.drew), (f1.out _ hE.drew)⟩ (fun hS => ?_)
          refine tV 0 ⟨some 17, .move (.tmp 0), _, _, _, none⟩ hS ?_
          refine tV 1 ⟨some 18, .move (.tmp 5), _, _, _, none⟩ hS ?_
          refine tV 2 ⟨some 19, .indexAddr 30 (.tmp 17) (.tmp 18), _, _, _, none⟩ hS ?_
          refine tL 3 ⟨some 20, .load 65 (.tmp 19), _, _, _, none⟩ hS ?_
          refine tV 4 ⟨some 21, .move (.tmp 1), _, _, _, none⟩ hS ?_
          refine tV 5 ⟨some 22, .move (.tmp 5), _, _, _, none⟩ hS ?_
          refine tV 6 ⟨some 23, .indexAddr 30 (.tmp 21) (.tmp 22), _, _, _, none⟩ hS ?_
          refine tL 7 ⟨some 24, .load 65 (.tmp 23), _, _, _, none⟩ hS ?_
          refine tV 8 ⟨some 25, .binOp .neq 65 (.tmp 20) (.tmp 24) 65, _, _, _, none⟩ hS ?_
          refine wpAnyH_done (by kernel_rfl) ?_ _
          all_goals
            clear hS
            replace hE := hE.drew
            go_wp2
            refine bodyPost_ret (results_tmp rfl _ _ _) rfl ?_
            exact ⟨_, rfl, .mk false hE (iff_of_false (by decide) (Hne.out (fun e => by have := Hxy.out.2 e; cases this)))⟩
      · obtain rfl : k = n := by omega
        have htk2 : xs = ys := by
          have h1 := N1.out
          have h2 := N2.out
          rwa [List.take_of_length_le (by omega), List.take_of_length_le (by omega)] at htk
        have R := SL.hid htk2
        clear htk htk2
        go_wp2
        refine bodyPost_ret (results_tmp rfl _ _ _) rfl ?_
        exact ⟨_, rfl, .mk true hE (iff_of_true rfl R.out)⟩
  · have R := SL.hid (show xs ≠ ys from fun e => hl (by rw [e]))
    have h1 : ¬ (xs.length : Int) = (ys.length : Int) := by omega
    go_enter Tryd.func10, Tryd.ntmps10
    go_wp2
    refine bodyPost_ret (results_tmp rfl _ _ _) rfl ?_
    exact ⟨_, rfl, .mk false hE (iff_of_false (by decide) R.out)⟩
end Go.Proofs.YtcpgelpajppgdaaDoor
namespace Go.Proofs.YtcpgelpajppgdaaDoor
open Go.RowKit Go.SL

def goodC (x : Ch) : Bool := splitE x.path == 0 && (!(splitL x.path).isEmpty && (!(x.was == x.now) && (maySd x.was && maySd x.now)))
def mayR (c : List Ch) : Prop := mayC c = true ∧ RiseP (c.map Ch.path)
open Classical in
noncomputable def mayB (c : List Ch) : Bool := decide (mayR c)
theorem mayR_nil : mayR [] := ⟨rfl, List.Pairwise.nil⟩
theorem mayR_take {c : List Ch} (h : mayR c) (m : Nat) : mayR (c.take m) := by
  refine ⟨List.all_eq_true.2 fun x hx => List.all_eq_true.1 h.1 x (List.mem_of_mem_take hx), ?_⟩
  rw [List.map_take]
  exact h.2.sublist (List.take_sublist _ _)
theorem mayR_snoc {pre : List Ch} {x : Ch} : mayR (pre ++ [x]) ↔ mayR pre ∧ goodC x = true ∧ ∀ y, pre.getLast? = some y → lessP y.path x.path = true := by
  constructor
  · rintro ⟨h1, h2⟩
    rw [RiseP, List.map_append, List.pairwise_append] at h2
    refine ⟨⟨List.all_eq_true.2 fun z hz => List.all_eq_true.1 h1 z (by simp [hz]), h2.1⟩, List.all_eq_true.1 h1 x (by simp), fun y hy => h2.2.2 _ (List.mem_map_of_mem (List.mem_of_getLast? hy)) _ (by simp)⟩
  · rintro ⟨⟨h1, h2⟩, h3, h4⟩
    refine ⟨List.all_eq_true.2 fun z hz => ?_, ?_⟩
    · rcases List.mem_append.1 hz with h | h
      · exact List.all_eq_true.1 h1 z h
      · rw [List.mem_singleton.1 h]; exact h3
    · rw [RiseP, List.map_append, List.pairwise_append]
      refine ⟨h2, by simp, fun a ha b hb => ?_⟩
      obtain rfl : b = x.path := by simpa using hb
      obtain ⟨z, hz, rfl⟩ := List.mem_map.1 ha
      cases hl : pre.getLast? with
      | none => rw [List.getLast?_eq_none_iff.1 hl] at hz; cases hz
      | some y =>
        obtain ⟨q, rfl⟩ := List.getLast?_eq_some_iff.1 hl
        have h5 := h4 y hl
        rcases List.mem_append.1 hz with h | h
        · rw [RiseP, List.map_append, List.pairwise_append] at h2
          exact lessP_trans (h2.2.2 _ (List.mem_map_of_mem h) y.path (by simp)) h5
        · rw [List.mem_singleton.1 h]; exact h5
theorem split_none {p : List UInt8} (h : splitE p = 0) : (splitL p).isEmpty = (p == []) := by
  unfold splitE at h
  unfold splitL
  by_cases h0 : p = []
  · subst h0; rfl
  · rw [if_neg h0] at h ⊢
    rw [beq_eq_false_iff_ne.2 h0]
    split at h
    · next h1 =>
      rw [if_pos h1]
      split at h
      · next h2 =>
        rw [if_pos h2]
        cases hc : cuts p with
        | nil => exact absurd hc (cuts_ne p)
        | cons a r => rfl
      · cases h
    · cases h
theorem mayR_at {es : List Ch} {k : Nat} (h : k < es.length) (hp : mayR (es.take k)) : (mayR (es.take (k + 1)) ↔ goodC es[k] = true ∧ ∀ y, (es.take k).getLast? = some y → lessP y.path es[k].path = true) ∧ (mayR es → goodC es[k] = true ∧ ∀ y, (es.take k).getLast? = some y → lessP y.path es[k].path = true) := by
  have e := List.take_succ_eq_append_getElem h
  have a1 : mayR (es.take (k + 1)) ↔ goodC es[k] = true ∧ ∀ y, (es.take k).getLast? = some y → lessP y.path es[k].path = true := by
    rw [e, mayR_snoc]
    exact ⟨fun h => h.2, fun h => ⟨hp, h⟩⟩
  exact ⟨a1, fun h => a1.1 (mayR_take h _)⟩
theorem last_take {es : List Ch} {j : Nat} (h : j + 1 < es.length) : (es.take (j + 1)).getLast? = some es[j] := by
  rw [List.take_succ_eq_append_getElem (by omega), List.getLast?_append]
  simp
def MPost (es : List Ch) (l : List HProp) (v : Value) (w' : World) : Prop := v = .bool (mayB es) ∧ Ent l w'
open Classical in
theorem MPost.mk {es : List Ch} {l : List HProp} {w : World} (b : Bool) (hE : Ent l w) (h : b = true ↔ mayR es) : MPost es l (.bool b) w := ⟨by rw [show mayB es = b by rw [mayB, Bool.eq_iff_iff]; simp [h]], hE⟩
def MyRel (es : List Ch) (l : List HProp) (i : Value) (wr : World) : Prop :=
  ∃ k : Nat, k ≤ es.length ∧ i = .int .i64 k ∧ mayR (es.take k) ∧ Ent l wr
end Go.Proofs.YtcpgelpajppgdaaDoor
namespace Go.Proofs.YtcpgelpajppgdaaDoor
open Go.RowKit Go.SL

def fitsB : Option Ch → Option Ch → Bool
  | some x, some y => x.now == y.was
  | _, _ => true
def pairsC (l m : List Ch) : List (Option Ch × Option Ch) := (sortK (l.map Ch.path ++ m.map Ch.path)).map (pairAt Ch.path Ch.path l m)
noncomputable def cmpP (l m : List Ch) : List Ch := if (mayB l && mayB m) = true then (if (pairsC l m).all (fun p => fitsB p.1 p.2) = true then (pairsC l m).filterMap (fun p => compO p.1 p.2) else []) else []
noncomputable def cmpE (l m : List Ch) : Int := if (mayB l && mayB m) = true then (if (pairsC l m).all (fun p => fitsB p.1 p.2) = true then 0 else 10) else 3
def CmPost (row : Option Addr → Nat → List Ch → HProp) (xs : List Ch) (er : Int) (l : List HProp) (v : Value) (w' : World) : Prop := ∃ ao c m, v = .tuple #[.slice ao xs.length c, .int .i64 er] ∧ Ent (row ao c xs :: (m ++ l)) w'
theorem findI_cases (l : List Ch) (p : List UInt8) : (l.find? (fun c => c.path == p) = none ∧ findI l p = -1) ∨ ∃ (i : Nat) (h : i < l.length), l.find? (fun c => c.path == p) = some l[i] ∧ findI l p = i := by
  unfold findI
  cases h : l.findIdx? (fun c => c.path == p) with
  | none =>
    rw [List.findIdx?_eq_none_iff] at h
    exact .inl ⟨List.find?_eq_none.2 (fun x hx => by rw [h x hx]; decide), rfl⟩
  | some i =>
    rw [List.findIdx?_eq_some_iff_getElem] at h
    obtain ⟨hi, h1, h2⟩ := h
    exact .inr ⟨i, hi, List.find?_eq_some_iff_getElem.2 ⟨h1, i, hi, rfl, fun j hj => by have := h2 j hj; simpa using this⟩, rfl⟩
theorem may_ne {es : List Ch} (h : mayB es = true) : ∀ x ∈ es, x.was ≠ x.now := by
  intro x hx
  have h : mayR es := by simpa [mayB] using h
  have := List.all_eq_true.1 h.1 x hx
  simp only [Bool.and_eq_true, Bool.not_eq_true'] at this
  exact beq_eq_false_iff_ne.1 this.2.2.1
theorem wpl_storeQ {P : Program} {ops : Array Oper} {rest : List Oper} {o : Oper} {a : Act} {Q : Exit → Act → World → Prop} {w : World} {l : List HProp} (hE : Ent l w) (i : Nat) {b : Nat} {xs xs' : List Value} {T : TypeId} (hi : l[i]? = some (pt b (.cells xs.toArray T (0, 0))))
    {t : TypeId} {x y : Operand} (ho : o.op = .store t x y) (hw : Region.wanted o (yielded ops a.tmps) = true)
    {off : Nat} (hx : a.eval x = .pointer (some ⟨b, off, none⟩)) {v : Value} (hy : a.eval y = v) {n : Nat} (hn : ∀ w, (Go.sizeOf t).run P w = .ok n w) (hc : v.cells.size = n)
    (h1 : ∀ u ∈ v.cells.toList, u.oneCell' = true) (hfit : off + n ≤ xs.length) (hres : xs.toArray.toList.take off ++ v.cells.toList ++ xs.toArray.toList.drop (off + v.cells.toList.length) = xs')
    (h : ∀ w', Ent (l.set i (pt b (.cells xs'.toArray T (0, 0)))) w' → wpList P ops Q rest (a.put o.dst undef) w') : wpList P ops Q (o :: rest) a w := by
  refine wpl_store hE i hi ho hw hx hy hn hc h1 (by simpa using hfit) fun w' hE' => h w' ?_
  rwa [hres] at hE'
def RcRel (all : List (List UInt8)) (F : List UInt8 → Option Ch) (G : List UInt8 → Bool) (LL : List HProp) (o i : Value) (wr : World) : Prop :=
  ∃ (k : Nat) (ao : Option Addr) (c : Nat) (out : List Ch), k ≤ all.length ∧ i = .int .i64 k ∧ out = (all.take k).filterMap F ∧ (∀ z ∈ all.take k, G z = true) ∧ o = .slice ao out.length c ∧ Ent (rowRc ao c out :: LL) wr
end Go.Proofs.YtcpgelpajppgdaaDoor
namespace Go.Proofs.YtcpgelpajppgdaaDoor
open Go.RowKit Go.SL

/-- a change that a pointer points to -/
theorem ptr_ch {L0 : List HProp} {x : Ch} {b off : Nat} (hx : ∀ w, Ent L0 w → ∀ j v, (chC x)[j]? = some v → w.cell? ⟨b, off + j, none⟩ = some v) {w : World} (hw : Ent L0 w) :
    (Instr.loadAt 65 (.pointer (some ⟨b, off, none⟩))).run Tryd.prog w = .ok (.agg (chC x).toArray) w ∧
    (Instr.loadAt 9 (.pointer (some ⟨b, off, none⟩))).run Tryd.prog w = .ok (.string ⟨x.path.toArray⟩) w ∧
    (Instr.loadAt 36 (.pointer (some ⟨b, off + 1, none⟩))).run Tryd.prog w = .ok (.agg (sdC x.was).toArray) w ∧
    (Instr.loadAt 36 (.pointer (some ⟨b, off + 4, none⟩))).run Tryd.prog w = .ok (.agg (sdC x.now).toArray) w ∧
    (Instr.loadAt 4 (.pointer (some ⟨b, off + 4, none⟩))).run Tryd.prog w = .ok (.bool x.now.there) w ∧
    (Instr.loadAt 4 (.pointer (some ⟨b, off + 4 + 1, none⟩))).run Tryd.prog w = .ok (.bool x.now.dir) w ∧
    (Instr.loadAt 9 (.pointer (some ⟨b, off + 4 + 2, none⟩))).run Tryd.prog w = .ok (.string ⟨x.now.data.toArray⟩) w := by
  have h := hx w hw
  refine ⟨atCells Tryd.isAgg65 Tryd.sizeOf65 (chC x) rfl (fun j v hv => by rw [Addr.add_lit]; exact h j v hv), atCell (by simpa using h 0 _ rfl) (by simp [go_sem]), atCells Tryd.isAgg36 Tryd.sizeOf36 (sdC x.was) rfl (fun j v hv => ?_), atCells Tryd.isAgg36 Tryd.sizeOf36 (sdC x.now) rfl (fun j v hv => ?_), atCell (h 4 _ rfl) (by simp [go_sem]), atCell (h 5 _ rfl) (by simp [go_sem]), atCell (h 6 _ rfl) (by simp [go_sem])⟩
  · rw [Addr.add_lit, Nat.add_assoc]
    refine h (1 + j) v ?_
    match j, hv with
    | 0, hv => exact hv
    | 1, hv => exact hv
    | 2, hv => exact hv
  · rw [Addr.add_lit, Nat.add_assoc]
    refine h (4 + j) v ?_
    match j, hv with
    | 0, hv => exact hv
    | 1, hv => exact hv
    | 2, hv => exact hv
def stepO (p : Option Ch × Option Ch) : Option Ch := if fitsB p.1 p.2 = true then compO p.1 p.2 else none
def boC (p1 p2 : Nat) (ao : Option Addr) (c : Nat) (out : List Ch) (ok : Bool) (L0 : List HProp) : List HProp := pt p1 (.cells #[.slice ao out.length c] 30) :: pt p2 (.cells #[.bool ok] 4) :: rowCh ao c out :: L0
def C1Post (p1 p2 : Nat) (out' : List Ch) (ok' : Bool) (L0 : List HProp) (w' : World) : Prop := ∃ ao c, Ent (boC p1 p2 ao c out' ok' L0) w'

set_option maxRecDepth 100000 in
set_option maxHeartbeats 4000000 in
attribute [-go_sem] Instr.loadAt Go.run_equalIn_agg in
theorem comp1_x {L0 : List HProp} {x : Ch} {bx ox : Nat} (hx : ∀ w, Ent L0 w → ∀ j v, (chC x)[j]? = some v → w.cell? ⟨bx, ox + j, none⟩ = some v) {p1 p2 : Nat} {ao : Option Addr} {c : Nat} {out : List Ch} {ok : Bool} (hn : out.length ≤ 1000000) {w : World} (hE : Ent (boC p1 p2 ao c out ok L0) w) :
    Calls Tryd.prog 55 #[.pointer (some ⟨bx, ox, none⟩), .pointer none, .pointer (some ⟨p1, 0, none⟩), .pointer (some ⟨p2, 0, none⟩)] w (Ret fun _ w' => C1Post p1 p2 (out ++ [x]) ok L0 w') := by
  unfold boC at hE
  have HX := SL.hid (fun (w : World) (h : Ent L0 w) => ptr_ch hx h)
  clear hx
  go_enter Tryd.func55, Tryd.ntmps55
  go_wp2
  have hO := hE.drew
  refine wp_region_held_drew (S := (fun w' => ((Instr.loadAt 65 (.pointer (some ⟨bx, ox, none⟩))).run Tryd.prog w' = .ok (.agg (chC x).toArray) w'))) (by kernel_rfl) (HX.out _ (hO.suf sfx)).1 (fun hS => ?_)
  refine tV 1 ⟨some 10, .move (.tmp 0), _, _, _, none⟩ hS ?_
  refine tV 2 ⟨some 11, .nilCheck (.tmp 10), _, _, _, none⟩ hS ?_
  refine tL 3 ⟨some 12, .load 65 (.tmp 11), _, _, _, none⟩ hS ?_
  refine wpAnyH_ready (rs := [0, 4]) (by kernel_rfl) (by simp) ?_
  refine (AllReadyH.cons (o := ⟨some 9, .load 30 (.tmp 2), _, _, _, none⟩) rfl (fun K hK => ?_) (AllReadyH.cons (o := ⟨some 13, .buildSlice 30 1 #[(0, .tmp 12)], _, _, _, none⟩) rfl (fun K hK => ?_) AllReadyH.nil))
  focus
    (first | (refine step_load1 hO 0 rfl (by rfl) (by rfl) (by rfl) (by simp [go_sem]) rfl ?_) | (refine step_load1 hO 1 rfl (by rfl) (by rfl) (by rfl) (by simp [go_sem]) rfl ?_))
    refine hK.out _ _ (HX.out _ (hO.suf sfx)).1 (fun hS => ?_)
    clear hK K
    try simp only [Act.put, sb, s0, sz]
    refine wpAnyH_ready (rs := [4]) (by kernel_rfl) (by simp) ?_
    refine (AllReadyH.cons (o := ⟨some 13, .buildSlice 30 1 #[(0, .tmp 12)], _, _, _, none⟩) rfl (fun K hK => ?_) AllReadyH.nil)
    (refine step_build1 hO rfl (by rfl) (xs := chC x) (by rfl) Tryd.underlying30 zs_ch Tryd.sizeOf65 (by decide) (by decide) rfl ?_; clear hO; intro b9 w7 hO)
    refine hK.out _ _ (HX.out _ (hO.suf sfx)).1 (fun hS => ?_)
    clear hK K
    try simp only [Act.put, sb, s0, sz]
    refine wpAnyH_ready (rs := [5]) (by kernel_rfl) (by simp) ?_
    refine (AllReadyH.cons (o := ⟨some 14, .call { callee := .builtin .append, args := #[.tmp 9, .tmp 13], argTypes := #[30, 30] }, _, _, _, none⟩) rfl (fun K hK => ?_) AllReadyH.nil)
    (refine step_appendG hO 3 rfl rfl (by rfl) (by rfl) (by rfl) Tryd.underlying30 info_ch (by decide) (m := 1) (news := chC x) (reads_pt hO 0 rfl (off := 0) (fun j u hu => by rw [Nat.zero_add, List.getElem?_toArray]; exact hu)) rfl (chC_one _) (by omega) (by omega) ?_; clear hO; intro a7 c7 w8 hO; simp only [List.set_cons_zero, List.set_cons_succ] at hO)
    refine hK.out _ _ (HX.out _ (hO.suf sfx)).1 (fun hS => ?_)
    clear hK K
    try simp only [Act.put, sb, s0, sz]
    refine wpAnyH_ready (rs := [6]) (by kernel_rfl) (by simp) ?_
    refine (AllReadyH.cons (o := ⟨none, .store 30 (.tmp 2) (.tmp 14), _, _, _, none⟩) rfl (fun K hK => ?_) AllReadyH.nil)
    (refine step_setC hO 1 rfl (by rfl) (by rfl) (by rfl) (v := .slice a7 (out.length + 1) c7) (by rfl) (by first | (simp [go_sem]; done) | (simp [go_sem]; rfl)) rfl rfl (by simp) ?_; clear hO; intro w9 hO; simp only [List.set_cons_zero, List.set_cons_succ] at hO)
    refine hK.out _ _ (HX.out _ (hO.suf sfx)).1 (fun hS => ?_)
    clear hK K
    try simp only [Act.put, sb, s0, sz]
    refine wpAnyH_done (by kernel_rfl) ?_ _
  rotate_right
  focus
    (refine step_build1 hO rfl (by rfl) (xs := chC x) (by rfl) Tryd.underlying30 zs_ch Tryd.sizeOf65 (by decide) (by decide) rfl ?_; clear hO; intro b9 w7 hO)
    refine hK.out _ _ (HX.out _ (hO.suf sfx)).1 (fun hS => ?_)
    clear hK K
    try simp only [Act.put, sb, s0, sz]
    refine wpAnyH_ready (rs := [0]) (by kernel_rfl) (by simp) ?_
    refine (AllReadyH.cons (o := ⟨some 9, .load 30 (.tmp 2), _, _, _, none⟩) rfl (fun K hK => ?_) AllReadyH.nil)
    (first | (refine step_load1 hO 0 rfl (by rfl) (by rfl) (by rfl) (by simp [go_sem]) rfl ?_) | (refine step_load1 hO 1 rfl (by rfl) (by rfl) (by rfl) (by simp [go_sem]) rfl ?_))
    refine hK.out _ _ (HX.out _ (hO.suf sfx)).1 (fun hS => ?_)
    clear hK K
    try simp only [Act.put, sb, s0, sz]
    refine wpAnyH_ready (rs := [5]) (by kernel_rfl) (by simp) ?_
    refine (AllReadyH.cons (o := ⟨some 14, .call { callee := .builtin .append, args := #[.tmp 9, .tmp 13], argTypes := #[30, 30] }, _, _, _, none⟩) rfl (fun K hK => ?_) AllReadyH.nil)
    (refine step_appendG hO 3 rfl rfl (by rfl) (by rfl) (by rfl) Tryd.underlying30 info_ch (by decide) (m := 1) (news := chC x) (reads_pt hO 0 rfl (off := 0) (fun j u hu => by rw [Nat.zero_add, List.getElem?_toArray]; exact hu)) rfl (chC_one _) (by omega) (by omega) ?_; clear hO; intro a7 c7 w8 hO; simp only [List.set_cons_zero, List.set_cons_succ] at hO)
    refine hK.out _ _ (HX.out _ (hO.suf sfx)).1 (fun hS => ?_)
    clear hK K
    try simp only [Act.put, sb, s0, sz]
    refine wpAnyH_ready (rs := [6]) (by kernel_rfl) (by simp) ?_
    refine (AllReadyH.cons (o := ⟨none, .store 30 (.tmp 2) (.tmp 14), _, _, _, none⟩) rfl (fun K hK => ?_) AllReadyH.nil)
    (refine step_setC hO 1 rfl (by rfl) (by rfl) (by rfl) (v := .slice a7 (out.length + 1) c7) (by rfl) (by first | (simp [go_sem]; done) | (simp [go_sem]; rfl)) rfl rfl (by simp) ?_; clear hO; intro w9 hO; simp only [List.set_cons_zero, List.set_cons_succ] at hO)
    refine hK.out _ _ (HX.out _ (hO.suf sfx)).1 (fun hS => ?_)
    clear hK K
    try simp only [Act.put, sb, s0, sz]
    refine wpAnyH_done (by kernel_rfl) ?_ _
  all_goals
    clear hS hE
    have hE := hO.tail
    clear hO
    go_wp2
    refine bodyPost_ret (results_none rfl _ _ _) rfl ?_
    refine ⟨_, rfl, a7, c7, ?_⟩
    have e1 : (out ++ [(x : Ch)]).length = out.length + 1 := by simp
    unfold boC
    rw [e1, ← rowCh_add]
    exact hE
set_option maxRecDepth 100000 in
set_option maxHeartbeats 4000000 in
attribute [-go_sem] Instr.loadAt Go.run_equalIn_agg in
theorem comp1_y {L0 : List HProp} {x : Ch} {bx ox : Nat} (hx : ∀ w, Ent L0 w → ∀ j v, (chC x)[j]? = some v → w.cell? ⟨bx, ox + j, none⟩ = some v) {p1 p2 : Nat} {ao : Option Addr} {c : Nat} {out : List Ch} {ok : Bool} (hn : out.length ≤ 1000000) {w : World} (hE : Ent (boC p1 p2 ao c out ok L0) w) :
    Calls Tryd.prog 55 #[.pointer none, .pointer (some ⟨bx, ox, none⟩), .pointer (some ⟨p1, 0, none⟩), .pointer (some ⟨p2, 0, none⟩)] w (Ret fun _ w' => C1Post p1 p2 (out ++ [x]) ok L0 w') := by
  unfold boC at hE
  have HX := SL.hid (fun (w : World) (h : Ent L0 w) => ptr_ch hx h)
  clear hx
  go_enter Tryd.func55, Tryd.ntmps55
  go_wp2
  have hO := hE.drew
  refine wp_region_held_drew (S := (fun w' => ((Instr.loadAt 65 (.pointer (some ⟨bx, ox, none⟩))).run Tryd.prog w' = .ok (.agg (chC x).toArray) w'))) (by kernel_rfl) (HX.out _ (hO.suf sfx)).1 (fun hS => ?_)
  refine tV 1 ⟨some 19, .move (.tmp 1), _, _, _, none⟩ hS ?_
  refine tV 2 ⟨some 20, .nilCheck (.tmp 19), _, _, _, none⟩ hS ?_
  refine tL 3 ⟨some 21, .load 65 (.tmp 20), _, _, _, none⟩ hS ?_
  refine wpAnyH_ready (rs := [0, 4]) (by kernel_rfl) (by simp) ?_
  refine (AllReadyH.cons (o := ⟨some 18, .load 30 (.tmp 2), _, _, _, none⟩) rfl (fun K hK => ?_) (AllReadyH.cons (o := ⟨some 22, .buildSlice 30 1 #[(0, .tmp 21)], _, _, _, none⟩) rfl (fun K hK => ?_) AllReadyH.nil))
  focus
    (first | (refine step_load1 hO 0 rfl (by rfl) (by rfl) (by rfl) (by simp [go_sem]) rfl ?_) | (refine step_load1 hO 1 rfl (by rfl) (by rfl) (by rfl) (by simp [go_sem]) rfl ?_))
    refine hK.out _ _ (HX.out _ (hO.suf sfx)).1 (fun hS => ?_)
    clear hK K
    try simp only [Act.put, sb, s0, sz]
    refine wpAnyH_ready (rs := [4]) (by kernel_rfl) (by simp) ?_
    refine (AllReadyH.cons (o := ⟨some 22, .buildSlice 30 1 #[(0, .tmp 21)], _, _, _, none⟩) rfl (fun K hK => ?_) AllReadyH.nil)
    (refine step_build1 hO rfl (by rfl) (xs := chC x) (by rfl) Tryd.underlying30 zs_ch Tryd.sizeOf65 (by decide) (by decide) rfl ?_; clear hO; intro b9 w7 hO)
    refine hK.out _ _ (HX.out _ (hO.suf sfx)).1 (fun hS => ?_)
    clear hK K
    try simp only [Act.put, sb, s0, sz]
    refine wpAnyH_ready (rs := [5]) (by kernel_rfl) (by simp) ?_
    refine (AllReadyH.cons (o := ⟨some 23, .call { callee := .builtin .append, args := #[.tmp 18, .tmp 22], argTypes := #[30, 30] }, _, _, _, none⟩) rfl (fun K hK => ?_) AllReadyH.nil)
    (refine step_appendG hO 3 rfl rfl (by rfl) (by rfl) (by rfl) Tryd.underlying30 info_ch (by decide) (m := 1) (news := chC x) (reads_pt hO 0 rfl (off := 0) (fun j u hu => by rw [Nat.zero_add, List.getElem?_toArray]; exact hu)) rfl (chC_one _) (by omega) (by omega) ?_; clear hO; intro a7 c7 w8 hO; simp only [List.set_cons_zero, List.set_cons_succ] at hO)
    refine hK.out _ _ (HX.out _ (hO.suf sfx)).1 (fun hS => ?_)
    clear hK K
    try simp only [Act.put, sb, s0, sz]
    refine wpAnyH_ready (rs := [6]) (by kernel_rfl) (by simp) ?_
    refine (AllReadyH.cons (o := ⟨none, .store 30 (.tmp 2) (.tmp 23), _, _, _, none⟩) rfl (fun K hK => ?_) AllReadyH.nil)
    (refine step_setC hO 1 rfl (by rfl) (by rfl) (by rfl) (v := .slice a7 (out.length + 1) c7) (by rfl) (by first | (simp [go_sem]; done) | (simp [go_sem]; rfl)) rfl rfl (by simp) ?_; clear hO; intro w9 hO; simp only [List.set_cons_zero, List.set_cons_succ] at hO)
    refine hK.out _ _ (HX.out _ (hO.suf sfx)).1 (fun hS => ?_)
    clear hK K
    try simp only [Act.put, sb, s0, sz]
    refine wpAnyH_done (by kernel_rfl) ?_ _
  rotate_right
  focus
    (refine step_build1 hO rfl (by rfl) (xs := chC x) (by rfl) Tryd.underlying30 zs_ch Tryd.sizeOf65 (by decide) (by decide) rfl ?_; clear hO; intro b9 w7 hO)
    refine hK.out _ _ (HX.out _ (hO.suf sfx)).1 (fun hS => ?_)
    clear hK K
    try simp only [Act.put, sb, s0, sz]
    refine wpAnyH_ready (rs := [0]) (by kernel_rfl) (by simp) ?_
    refine (AllReadyH.cons (o := ⟨some 18, .load 30 (.tmp 2), _, _, _, none⟩) rfl (fun K hK => ?_) AllReadyH.nil)
    (first | (refine step_load1 hO 0 rfl (by rfl) (by rfl) (by rfl) (by simp [go_sem]) rfl ?_) | (refine step_load1 hO 1 rfl (by rfl) (by rfl) (by rfl) (by simp [go_sem]) rfl ?_))
    refine hK.out _ _ (HX.out _ (hO.suf sfx)).1 (fun hS => ?_)
    clear hK K
    try simp only [Act.put, sb, s0, sz]
    refine wpAnyH_ready (rs := [5]) (by kernel_rfl) (by simp) ?_
    refine (AllReadyH.cons (o := ⟨some 23, .call { callee := .builtin .append, args := #[.tmp 18, .tmp 22], argTypes := #[30, 30] }, _, _, _, none⟩) rfl (fun K hK => ?_) AllReadyH.nil)
    (refine step_appendG hO 3 rfl rfl (by rfl) (by rfl) (by rfl) Tryd.underlying30 info_ch (by decide) (m := 1) (news := chC x) (reads_pt hO 0 rfl (off := 0) (fun j u hu => by rw [Nat.zero_add, List.getElem?_toArray]; exact hu)) rfl (chC_one _) (by omega) (by omega) ?_; clear hO; intro a7 c7 w8 hO; simp only [List.set_cons_zero, List.set_cons_succ] at hO)
    refine hK.out _ _ (HX.out _ (hO.suf sfx)).1 (fun hS => ?_)
    clear hK K
    try simp only [Act.put, sb, s0, sz]
    refine wpAnyH_ready (rs := [6]) (by kernel_rfl) (by simp) ?_
    refine (AllReadyH.cons (o := ⟨none, .store 30 (.tmp 2) (.tmp 23), _, _, _, none⟩) rfl (fun K hK => ?_) AllReadyH.nil)
    (refine step_setC hO 1 rfl (by rfl) (by rfl) (by rfl) (v := .slice a7 (out.length + 1) c7) (by rfl) (by first | (simp [go_sem]; done) | (simp [go_sem]; rfl)) rfl rfl (by simp) ?_; clear hO; intro w9 hO; simp only [List.set_cons_zero, List.set_cons_succ] at hO)
    refine hK.out _ _ (HX.out _ (hO.suf sfx)).1 (fun hS => ?_)
    clear hK K
    try simp only [Act.put, sb, s0, sz]
    refine wpAnyH_done (by kernel_rfl) ?_ _
  all_goals
    clear hS hE
    have hE := hO.tail
    clear hO
    go_wp2
    refine bodyPost_ret (results_none rfl _ _ _) rfl ?_
    refine ⟨_, rfl, a7, c7, ?_⟩
    have e1 : (out ++ [(x : Ch)]).length = out.length + 1 := by simp
    unfold boC
    rw [e1, ← rowCh_add]
    exact hE
set_option maxRecDepth 100000 in
set_option maxHeartbeats 4000000 in
attribute [-go_sem] Instr.loadAt Go.run_equalIn_agg in
theorem comp1_xy {L0 : List HProp} {x y : Ch} {bx ox b_y oy : Nat} (hx : ∀ w, Ent L0 w → ∀ j v, (chC x)[j]? = some v → w.cell? ⟨bx, ox + j, none⟩ = some v) (hy : ∀ w, Ent L0 w → ∀ j v, (chC y)[j]? = some v → w.cell? ⟨b_y, oy + j, none⟩ = some v) {p1 p2 : Nat} {ao : Option Addr} {c : Nat} {out : List Ch} {ok : Bool} (hn : out.length ≤ 1000000) {w : World} (hE : Ent (boC p1 p2 ao c out ok L0) w) :
    Calls Tryd.prog 55 #[.pointer (some ⟨bx, ox, none⟩), .pointer (some ⟨b_y, oy, none⟩), .pointer (some ⟨p1, 0, none⟩), .pointer (some ⟨p2, 0, none⟩)] w (Ret fun _ w' => C1Post p1 p2 (out ++ (stepO (some x, some y)).toList) (ok && fitsB (some x) (some y)) L0 w') := by
  unfold boC at hE
  have HX := SL.hid (fun (w : World) (h : Ent L0 w) => ptr_ch hx h)
  have HY := SL.hid (fun (w : World) (h : Ent L0 w) => ptr_ch hy h)
  clear hx hy
  obtain ⟨xp, ⟨zt, zd, zb⟩, ⟨xt, xd, xb⟩⟩ := x
  obtain ⟨yp, ⟨yt, yd, yb⟩, ⟨wt, wd, wb⟩⟩ := y
  simp only [chC, sdC] at HX HY
  have hEq2 := fun w => eqSd 9998 ⟨xt, xd, xb⟩ ⟨yt, yd, yb⟩ w
  have hEq := fun w => eqSd 9998 ⟨zt, zd, zb⟩ ⟨wt, wd, wb⟩ w
  have hk : stepO (some ⟨xp, ⟨zt, zd, zb⟩, ⟨xt, xd, xb⟩⟩, some ⟨yp, ⟨yt, yd, yb⟩, ⟨wt, wd, wb⟩⟩) = if ((⟨xt, xd, xb⟩ : Sd) == ⟨yt, yd, yb⟩) = true then (if ((⟨zt, zd, zb⟩ : Sd) == ⟨wt, wd, wb⟩) = true then none else some ⟨xp, ⟨zt, zd, zb⟩, ⟨wt, wd, wb⟩⟩) else none := by
    have e : compO (some ⟨xp, ⟨zt, zd, zb⟩, ⟨xt, xd, xb⟩⟩) (some ⟨yp, ⟨yt, yd, yb⟩, ⟨wt, wd, wb⟩⟩) = if ((⟨zt, zd, zb⟩ : Sd) == ⟨wt, wd, wb⟩) = true then none else some ⟨xp, ⟨zt, zd, zb⟩, ⟨wt, wd, wb⟩⟩ := by
      by_cases h : (⟨zt, zd, zb⟩ : Sd) = ⟨wt, wd, wb⟩ <;> simp [compO, h]
    rw [← e]
    rfl
  have hf : fitsB (some ⟨xp, ⟨zt, zd, zb⟩, ⟨xt, xd, xb⟩⟩) (some ⟨yp, ⟨yt, yd, yb⟩, ⟨wt, wd, wb⟩⟩) = ((⟨xt, xd, xb⟩ : Sd) == ⟨yt, yd, yb⟩) := rfl
  rw [hk, hf]
  clear hk hf
  simp only [sdC] at hEq hEq2
  generalize ((⟨zt, zd, zb⟩ : Sd) == ⟨wt, wd, wb⟩) = eq at *
  generalize ((⟨xt, xd, xb⟩ : Sd) == ⟨yt, yd, yb⟩) = eq2 at *
  cases eq2 with
  | false =>
    simp only [Bool.and_false, Bool.false_eq_true, if_false, Option.toList, List.append_nil]
    go_enter Tryd.func55, Tryd.ntmps55
    go_wp2
    have hO := hE.drew
    refine wp_region_held_drew (S := (fun w' => ((Instr.loadAt 9 (.pointer (some ⟨bx, ox, none⟩))).run Tryd.prog w' = .ok (.string ⟨xp.toArray⟩) w') ∧ ((Instr.loadAt 36 (.pointer (some ⟨bx, ox + 1, none⟩))).run Tryd.prog w' = .ok (.agg #[.bool zt, .bool zd, .string ⟨zb.toArray⟩]) w') ∧ ((Instr.loadAt 36 (.pointer (some ⟨bx, ox + 4, none⟩))).run Tryd.prog w' = .ok (.agg #[.bool xt, .bool xd, .string ⟨xb.toArray⟩]) w') ∧ ((Instr.loadAt 36 (.pointer (some ⟨b_y, oy + 1, none⟩))).run Tryd.prog w' = .ok (.agg #[.bool yt, .bool yd, .string ⟨yb.toArray⟩]) w') ∧ ((Instr.loadAt 36 (.pointer (some ⟨b_y, oy + 4, none⟩))).run Tryd.prog w' = .ok (.agg #[.bool wt, .bool wd, .string ⟨wb.toArray⟩]) w'))) (by kernel_rfl) ⟨(HX.out _ (hO.suf sfx)).2.1, (HX.out _ (hO.suf sfx)).2.2.1, (HX.out _ (hO.suf sfx)).2.2.2.1, (HY.out _ (hO.suf sfx)).2.2.1, (HY.out _ (hO.suf sfx)).2.2.2.1⟩ (fun hS => ?_)
    refine tV 0 ⟨some 25, .move (.tmp 0), _, _, _, none⟩ hS ?_
    refine tV 1 ⟨some 26, .nilCheck (.tmp 25), _, _, _, none⟩ hS ?_
    refine tV 2 ⟨some 27, .fieldAddr 65 (.tmp 26) 2, _, _, _, none⟩ hS ?_
    refine tL 3 ⟨some 28, .load 36 (.tmp 27), _, _, _, none⟩ hS ?_
    refine tV 4 ⟨some 29, .move (.tmp 1), _, _, _, none⟩ hS ?_
    refine tV 5 ⟨some 30, .nilCheck (.tmp 29), _, _, _, none⟩ hS ?_
    refine tV 6 ⟨some 31, .fieldAddr 65 (.tmp 30) 1, _, _, _, none⟩ hS ?_
    refine tL 7 ⟨some 32, .load 36 (.tmp 31), _, _, _, none⟩ hS ?_
    refine tV 8 ⟨some 33, .binOp .neq 36 (.tmp 28) (.tmp 32) 36, _, _, _, none⟩ hS ?_
    refine tV 9 ⟨some 24, .assign (.tmp 33), _, _, _, none⟩ hS ?_
    refine wpAnyH_done (by kernel_rfl) ?_ _
    all_goals
      clear hS hE
      have hE := hO
      clear hO
      go_wp2_with (first
        | go_skip
        | ((with_reducible (show Go.wpList _ _ _ (Go.Oper.mk _ (.store _ _ _) _ _ _ _ :: _) _ _)); refine wpl_st1 hE 1 rfl rfl rfl rfl rfl (by first | (simp [go_sem]; done) | (simp [go_sem]; rfl)) rfl rfl (by simp) ?_; clear hE; intro w7 hE; simp only [List.set_cons_zero, List.set_cons_succ] at hE))
      refine bodyPost_ret (results_none rfl _ _ _) rfl ?_
      exact ⟨_, rfl, ao, c, hE⟩
  | true =>
    cases eq with
    | true =>
      simp only [Bool.and_true, if_true, Option.toList, List.append_nil]
      go_enter Tryd.func55, Tryd.ntmps55
      go_wp2
      have hO := hE.drew
      refine wp_region_held_drew (S := (fun w' => ((Instr.loadAt 9 (.pointer (some ⟨bx, ox, none⟩))).run Tryd.prog w' = .ok (.string ⟨xp.toArray⟩) w') ∧ ((Instr.loadAt 36 (.pointer (some ⟨bx, ox + 1, none⟩))).run Tryd.prog w' = .ok (.agg #[.bool zt, .bool zd, .string ⟨zb.toArray⟩]) w') ∧ ((Instr.loadAt 36 (.pointer (some ⟨bx, ox + 4, none⟩))).run Tryd.prog w' = .ok (.agg #[.bool xt, .bool xd, .string ⟨xb.toArray⟩]) w') ∧ ((Instr.loadAt 36 (.pointer (some ⟨b_y, oy + 1, none⟩))).run Tryd.prog w' = .ok (.agg #[.bool yt, .bool yd, .string ⟨yb.toArray⟩]) w') ∧ ((Instr.loadAt 36 (.pointer (some ⟨b_y, oy + 4, none⟩))).run Tryd.prog w' = .ok (.agg #[.bool wt, .bool wd, .string ⟨wb.toArray⟩]) w'))) (by kernel_rfl) ⟨(HX.out _ (hO.suf sfx)).2.1, (HX.out _ (hO.suf sfx)).2.2.1, (HX.out _ (hO.suf sfx)).2.2.2.1, (HY.out _ (hO.suf sfx)).2.2.1, (HY.out _ (hO.suf sfx)).2.2.2.1⟩ (fun hS => ?_)
      refine tV 0 ⟨some 25, .move (.tmp 0), _, _, _, none⟩ hS ?_
      refine tV 1 ⟨some 26, .nilCheck (.tmp 25), _, _, _, none⟩ hS ?_
      refine tV 2 ⟨some 27, .fieldAddr 65 (.tmp 26) 2, _, _, _, none⟩ hS ?_
      refine tL 3 ⟨some 28, .load 36 (.tmp 27), _, _, _, none⟩ hS ?_
      refine tV 4 ⟨some 29, .move (.tmp 1), _, _, _, none⟩ hS ?_
      refine tV 5 ⟨some 30, .nilCheck (.tmp 29), _, _, _, none⟩ hS ?_
      refine tV 6 ⟨some 31, .fieldAddr 65 (.tmp 30) 1, _, _, _, none⟩ hS ?_
      refine tL 7 ⟨some 32, .load 36 (.tmp 31), _, _, _, none⟩ hS ?_
      refine tV 8 ⟨some 33, .binOp .neq 36 (.tmp 28) (.tmp 32) 36, _, _, _, none⟩ hS ?_
      refine tV 9 ⟨some 24, .assign (.tmp 33), _, _, _, none⟩ hS ?_
      refine wpAnyH_done (by kernel_rfl) ?_ _
      all_goals
        clear hS hE
        have hE := hO
        clear hO
        go_wp2
        have hO := hE.drew
        refine wp_region_held_drew (S := (fun w' => ((Instr.loadAt 9 (.pointer (some ⟨bx, ox, none⟩))).run Tryd.prog w' = .ok (.string ⟨xp.toArray⟩) w') ∧ ((Instr.loadAt 36 (.pointer (some ⟨bx, ox + 1, none⟩))).run Tryd.prog w' = .ok (.agg #[.bool zt, .bool zd, .string ⟨zb.toArray⟩]) w') ∧ ((Instr.loadAt 36 (.pointer (some ⟨bx, ox + 4, none⟩))).run Tryd.prog w' = .ok (.agg #[.bool xt, .bool xd, .string ⟨xb.toArray⟩]) w') ∧ ((Instr.loadAt 36 (.pointer (some ⟨b_y, oy + 1, none⟩))).run Tryd.prog w' = .ok (.agg #[.bool yt, .bool yd, .string ⟨yb.toArray⟩]) w') ∧ ((Instr.loadAt 36 (.pointer (some ⟨b_y, oy + 4, none⟩))).run Tryd.prog w' = .ok (.agg #[.bool wt, .bool wd, .string ⟨wb.toArray⟩]) w'))) (by kernel_rfl) ⟨(HX.out _ (hO.suf sfx)).2.1, (HX.out _ (hO.suf sfx)).2.2.1, (HX.out _ (hO.suf sfx)).2.2.2.1, (HY.out _ (hO.suf sfx)).2.2.1, (HY.out _ (hO.suf sfx)).2.2.2.1⟩ (fun hS => ?_)
        refine tV 0 ⟨some 35, .move (.tmp 0), _, _, _, none⟩ hS ?_
        refine tV 1 ⟨some 36, .nilCheck (.tmp 35), _, _, _, none⟩ hS ?_
        refine tV 2 ⟨some 37, .fieldAddr 65 (.tmp 36) 1, _, _, _, none⟩ hS ?_
        refine tL 3 ⟨some 38, .load 36 (.tmp 37), _, _, _, none⟩ hS ?_
        refine tV 4 ⟨some 39, .move (.tmp 1), _, _, _, none⟩ hS ?_
        refine tV 5 ⟨some 40, .nilCheck (.tmp 39), _, _, _, none⟩ hS ?_
        refine tV 6 ⟨some 41, .fieldAddr 65 (.tmp 40) 2, _, _, _, none⟩ hS ?_
        refine tL 7 ⟨some 42, .load 36 (.tmp 41), _, _, _, none⟩ hS ?_
        refine tV 8 ⟨some 43, .binOp .neq 36 (.tmp 38) (.tmp 42) 36, _, _, _, none⟩ hS ?_
        refine tV 9 ⟨some 34, .assign (.tmp 43), _, _, _, none⟩ hS ?_
        refine wpAnyH_done (by kernel_rfl) ?_ _
        all_goals
          clear hS hE
          have hE := hO
          clear hO
          go_wp2
          refine bodyPost_ret (results_none rfl _ _ _) rfl ?_
          exact ⟨_, rfl, ao, c, hE⟩
    | false =>
      simp only [Bool.and_true, if_true, Bool.false_eq_true, if_false, Option.toList]
      go_enter Tryd.func55, Tryd.ntmps55
      go_wp2
      have hO := hE.drew
      refine wp_region_held_drew (S := (fun w' => ((Instr.loadAt 9 (.pointer (some ⟨bx, ox, none⟩))).run Tryd.prog w' = .ok (.string ⟨xp.toArray⟩) w') ∧ ((Instr.loadAt 36 (.pointer (some ⟨bx, ox + 1, none⟩))).run Tryd.prog w' = .ok (.agg #[.bool zt, .bool zd, .string ⟨zb.toArray⟩]) w') ∧ ((Instr.loadAt 36 (.pointer (some ⟨bx, ox + 4, none⟩))).run Tryd.prog w' = .ok (.agg #[.bool xt, .bool xd, .string ⟨xb.toArray⟩]) w') ∧ ((Instr.loadAt 36 (.pointer (some ⟨b_y, oy + 1, none⟩))).run Tryd.prog w' = .ok (.agg #[.bool yt, .bool yd, .string ⟨yb.toArray⟩]) w') ∧ ((Instr.loadAt 36 (.pointer (some ⟨b_y, oy + 4, none⟩))).run Tryd.prog w' = .ok (.agg #[.bool wt, .bool wd, .string ⟨wb.toArray⟩]) w'))) (by kernel_rfl) ⟨(HX.out _ (hO.suf sfx)).2.1, (HX.out _ (hO.suf sfx)).2.2.1, (HX.out _ (hO.suf sfx)).2.2.2.1, (HY.out _ (hO.suf sfx)).2.2.1, (HY.out _ (hO.suf sfx)).2.2.2.1⟩ (fun hS => ?_)
      refine tV 0 ⟨some 25, .move (.tmp 0), _, _, _, none⟩ hS ?_
      refine tV 1 ⟨some 26, .nilCheck (.tmp 25), _, _, _, none⟩ hS ?_
      refine tV 2 ⟨some 27, .fieldAddr 65 (.tmp 26) 2, _, _, _, none⟩ hS ?_
      refine tL 3 ⟨some 28, .load 36 (.tmp 27), _, _, _, none⟩ hS ?_
      refine tV 4 ⟨some 29, .move (.tmp 1), _, _, _, none⟩ hS ?_
      refine tV 5 ⟨some 30, .nilCheck (.tmp 29), _, _, _, none⟩ hS ?_
      refine tV 6 ⟨some 31, .fieldAddr 65 (.tmp 30) 1, _, _, _, none⟩ hS ?_
      refine tL 7 ⟨some 32, .load 36 (.tmp 31), _, _, _, none⟩ hS ?_
      refine tV 8 ⟨some 33, .binOp .neq 36 (.tmp 28) (.tmp 32) 36, _, _, _, none⟩ hS ?_
      refine tV 9 ⟨some 24, .assign (.tmp 33), _, _, _, none⟩ hS ?_
      refine wpAnyH_done (by kernel_rfl) ?_ _
      all_goals
        clear hS hE
        have hE := hO
        clear hO
        go_wp2
        have hO := hE.drew
        refine wp_region_held_drew (S := (fun w' => ((Instr.loadAt 9 (.pointer (some ⟨bx, ox, none⟩))).run Tryd.prog w' = .ok (.string ⟨xp.toArray⟩) w') ∧ ((Instr.loadAt 36 (.pointer (some ⟨bx, ox + 1, none⟩))).run Tryd.prog w' = .ok (.agg #[.bool zt, .bool zd, .string ⟨zb.toArray⟩]) w') ∧ ((Instr.loadAt 36 (.pointer (some ⟨bx, ox + 4, none⟩))).run Tryd.prog w' = .ok (.agg #[.bool xt, .bool xd, .string ⟨xb.toArray⟩]) w') ∧ ((Instr.loadAt 36 (.pointer (some ⟨b_y, oy + 1, none⟩))).run Tryd.prog w' = .ok (.agg #[.bool yt, .bool yd, .string ⟨yb.toArray⟩]) w') ∧ ((Instr.loadAt 36 (.pointer (some ⟨b_y, oy + 4, none⟩))).run Tryd.prog w' = .ok (.agg #[.bool wt, .bool wd, .string ⟨wb.toArray⟩]) w'))) (by kernel_rfl) ⟨(HX.out _ (hO.suf sfx)).2.1, (HX.out _ (hO.suf sfx)).2.2.1, (HX.out _ (hO.suf sfx)).2.2.2.1, (HY.out _ (hO.suf sfx)).2.2.1, (HY.out _ (hO.suf sfx)).2.2.2.1⟩ (fun hS => ?_)
        refine tV 0 ⟨some 35, .move (.tmp 0), _, _, _, none⟩ hS ?_
        refine tV 1 ⟨some 36, .nilCheck (.tmp 35), _, _, _, none⟩ hS ?_
        refine tV 2 ⟨some 37, .fieldAddr 65 (.tmp 36) 1, _, _, _, none⟩ hS ?_
        refine tL 3 ⟨some 38, .load 36 (.tmp 37), _, _, _, none⟩ hS ?_
        refine tV 4 ⟨some 39, .move (.tmp 1), _, _, _, none⟩ hS ?_
        refine tV 5 ⟨some 40, .nilCheck (.tmp 39), _, _, _, none⟩ hS ?_
        refine tV 6 ⟨some 41, .fieldAddr 65 (.tmp 40) 2, _, _, _, none⟩ hS ?_
        refine tL 7 ⟨some 42, .load 36 (.tmp 41), _, _, _, none⟩ hS ?_
        refine tV 8 ⟨some 43, .binOp .neq 36 (.tmp 38) (.tmp 42) 36, _, _, _, none⟩ hS ?_
        refine tV 9 ⟨some 34, .assign (.tmp 43), _, _, _, none⟩ hS ?_
        refine wpAnyH_done (by kernel_rfl) ?_ _
        all_goals
          clear hS hE
          have hE := hO
          clear hO
          go_wp2
          have hO := hE.drew
          refine wp_region_held_drew (S := (fun w' => ((Instr.loadAt 9 (.pointer (some ⟨bx, ox, none⟩))).run Tryd.prog w' = .ok (.string ⟨xp.toArray⟩) w') ∧ ((Instr.loadAt 36 (.pointer (some ⟨bx, ox + 1, none⟩))).run Tryd.prog w' = .ok (.agg #[.bool zt, .bool zd, .string ⟨zb.toArray⟩]) w') ∧ ((Instr.loadAt 36 (.pointer (some ⟨bx, ox + 4, none⟩))).run Tryd.prog w' = .ok (.agg #[.bool xt, .bool xd, .string ⟨xb.toArray⟩]) w') ∧ ((Instr.loadAt 36 (.pointer (some ⟨b_y, oy + 1, none⟩))).run Tryd.prog w' = .ok (.agg #[.bool yt, .bool yd, .string ⟨yb.toArray⟩]) w') ∧ ((Instr.loadAt 36 (.pointer (some ⟨b_y, oy + 4, none⟩))).run Tryd.prog w' = .ok (.agg #[.bool wt, .bool wd, .string ⟨wb.toArray⟩]) w'))) (by kernel_rfl) ⟨(HX.out _ (hO.suf sfx)).2.1, (HX.out _ (hO.suf sfx)).2.2.1, (HX.out _ (hO.suf sfx)).2.2.2.1, (HY.out _ (hO.suf sfx)).2.2.1, (HY.out _ (hO.suf sfx)).2.2.2.1⟩ (fun hS => ?_)
          refine tV 1 ⟨some 45, .move (.tmp 0), _, _, _, none⟩ hS ?_
          refine tV 2 ⟨some 46, .nilCheck (.tmp 45), _, _, _, none⟩ hS ?_
          refine tV 3 ⟨some 47, .fieldAddr 65 (.tmp 46) 0, _, _, _, none⟩ hS ?_
          refine tL 4 ⟨some 48, .load 9 (.tmp 47), _, _, _, none⟩ hS ?_
          refine tV 5 ⟨some 49, .move (.tmp 0), _, _, _, none⟩ hS ?_
          refine tV 6 ⟨some 50, .nilCheck (.tmp 49), _, _, _, none⟩ hS ?_
          refine tV 7 ⟨some 51, .fieldAddr 65 (.tmp 50) 1, _, _, _, none⟩ hS ?_
          refine tL 8 ⟨some 52, .load 36 (.tmp 51), _, _, _, none⟩ hS ?_
          refine tV 9 ⟨some 53, .move (.tmp 1), _, _, _, none⟩ hS ?_
          refine tV 10 ⟨some 54, .nilCheck (.tmp 53), _, _, _, none⟩ hS ?_
          refine tV 11 ⟨some 55, .fieldAddr 65 (.tmp 54) 2, _, _, _, none⟩ hS ?_
          refine tL 12 ⟨some 56, .load 36 (.tmp 55), _, _, _, none⟩ hS ?_
          refine tV 13 ⟨some 57, .build 65 #[(0, .tmp 48), (1, .tmp 52), (2, .tmp 56)], _, _, _, none⟩ hS ?_
          refine wpAnyH_ready (rs := [0, 14]) (by kernel_rfl) (by simp) ?_
          refine (AllReadyH.cons (o := ⟨some 44, .load 30 (.tmp 2), _, _, _, none⟩) rfl (fun K hK => ?_) (AllReadyH.cons (o := ⟨some 58, .buildSlice 30 1 #[(0, .tmp 57)], _, _, _, none⟩) rfl (fun K hK => ?_) AllReadyH.nil))
          focus
            (first | (refine step_load1 hO 0 rfl (by rfl) (by rfl) (by rfl) (by simp [go_sem]) rfl ?_) | (refine step_load1 hO 1 rfl (by rfl) (by rfl) (by rfl) (by simp [go_sem]) rfl ?_))
            refine hK.out _ _ ⟨(HX.out _ (hO.suf sfx)).2.1, (HX.out _ (hO.suf sfx)).2.2.1, (HX.out _ (hO.suf sfx)).2.2.2.1, (HY.out _ (hO.suf sfx)).2.2.1, (HY.out _ (hO.suf sfx)).2.2.2.1⟩ (fun hS => ?_)
            clear hK K
            try simp only [Act.put, sb, s0, sz]
            refine wpAnyH_ready (rs := [14]) (by kernel_rfl) (by simp) ?_
            refine (AllReadyH.cons (o := ⟨some 58, .buildSlice 30 1 #[(0, .tmp 57)], _, _, _, none⟩) rfl (fun K hK => ?_) AllReadyH.nil)
            (refine step_build1 hO rfl (by rfl) (xs := chC ⟨xp, ⟨zt, zd, zb⟩, ⟨wt, wd, wb⟩⟩) (by rfl) Tryd.underlying30 zs_ch Tryd.sizeOf65 (by decide) (by decide) rfl ?_; clear hO; intro b9 w7 hO)
            refine hK.out _ _ ⟨(HX.out _ (hO.suf sfx)).2.1, (HX.out _ (hO.suf sfx)).2.2.1, (HX.out _ (hO.suf sfx)).2.2.2.1, (HY.out _ (hO.suf sfx)).2.2.1, (HY.out _ (hO.suf sfx)).2.2.2.1⟩ (fun hS => ?_)
            clear hK K
            try simp only [Act.put, sb, s0, sz]
            refine wpAnyH_ready (rs := [15]) (by kernel_rfl) (by simp) ?_
            refine (AllReadyH.cons (o := ⟨some 59, .call { callee := .builtin .append, args := #[.tmp 44, .tmp 58], argTypes := #[30, 30] }, _, _, _, none⟩) rfl (fun K hK => ?_) AllReadyH.nil)
            (refine step_appendG hO 3 rfl rfl (by rfl) (by rfl) (by rfl) Tryd.underlying30 info_ch (by decide) (m := 1) (news := chC ⟨xp, ⟨zt, zd, zb⟩, ⟨wt, wd, wb⟩⟩) (reads_pt hO 0 rfl (off := 0) (fun j u hu => by rw [Nat.zero_add, List.getElem?_toArray]; exact hu)) rfl (chC_one _) (by omega) (by omega) ?_; clear hO; intro a7 c7 w8 hO; simp only [List.set_cons_zero, List.set_cons_succ] at hO)
            refine hK.out _ _ ⟨(HX.out _ (hO.suf sfx)).2.1, (HX.out _ (hO.suf sfx)).2.2.1, (HX.out _ (hO.suf sfx)).2.2.2.1, (HY.out _ (hO.suf sfx)).2.2.1, (HY.out _ (hO.suf sfx)).2.2.2.1⟩ (fun hS => ?_)
            clear hK K
            try simp only [Act.put, sb, s0, sz]
            refine wpAnyH_ready (rs := [16]) (by kernel_rfl) (by simp) ?_
            refine (AllReadyH.cons (o := ⟨none, .store 30 (.tmp 2) (.tmp 59), _, _, _, none⟩) rfl (fun K hK => ?_) AllReadyH.nil)
            (refine step_setC hO 1 rfl (by rfl) (by rfl) (by rfl) (v := .slice a7 (out.length + 1) c7) (by rfl) (by first | (simp [go_sem]; done) | (simp [go_sem]; rfl)) rfl rfl (by simp) ?_; clear hO; intro w9 hO; simp only [List.set_cons_zero, List.set_cons_succ] at hO)
            refine hK.out _ _ ⟨(HX.out _ (hO.suf sfx)).2.1, (HX.out _ (hO.suf sfx)).2.2.1, (HX.out _ (hO.suf sfx)).2.2.2.1, (HY.out _ (hO.suf sfx)).2.2.1, (HY.out _ (hO.suf sfx)).2.2.2.1⟩ (fun hS => ?_)
            clear hK K
            try simp only [Act.put, sb, s0, sz]
            refine wpAnyH_done (by kernel_rfl) ?_ _
          rotate_right
          focus
            (refine step_build1 hO rfl (by rfl) (xs := chC ⟨xp, ⟨zt, zd, zb⟩, ⟨wt, wd, wb⟩⟩) (by rfl) Tryd.underlying30 zs_ch Tryd.sizeOf65 (by decide) (by decide) rfl ?_; clear hO; intro b9 w7 hO)
            refine hK.out _ _ ⟨(HX.out _ (hO.suf sfx)).2.1, (HX.out _ (hO.suf sfx)).2.2.1, (HX.out _ (hO.suf sfx)).2.2.2.1, (HY.out _ (hO.suf sfx)).2.2.1, (HY.out _ (hO.suf sfx)).2.2.2.1⟩ (fun hS => ?_)
            clear hK K
            try simp only [Act.put, sb, s0, sz]
            refine wpAnyH_ready (rs := [0]) (by kernel_rfl) (by simp) ?_
            refine (AllReadyH.cons (o := ⟨some 44, .load 30 (.tmp 2), _, _, _, none⟩) rfl (fun K hK => ?_) AllReadyH.nil)
            (first | (refine step_load1 hO 0 rfl (by rfl) (by rfl) (by rfl) (by simp [go_sem]) rfl ?_) | (refine step_load1 hO 1 rfl (by rfl) (by rfl) (by rfl) (by simp [go_sem]) rfl ?_))
            refine hK.out _ _ ⟨(HX.out _ (hO.suf sfx)).2.1, (HX.out _ (hO.suf sfx)).2.2.1, (HX.out _ (hO.suf sfx)).2.2.2.1, (HY.out _ (hO.suf sfx)).2.2.1, (HY.out _ (hO.suf sfx)).2.2.2.1⟩ (fun hS => ?_)
            clear hK K
            try simp only [Act.put, sb, s0, sz]
            refine wpAnyH_ready (rs := [15]) (by kernel_rfl) (by simp) ?_
            refine (AllReadyH.cons (o := ⟨some 59, .call { callee := .builtin .append, args := #[.tmp 44, .tmp 58], argTypes := #[30, 30] }, _, _, _, none⟩) rfl (fun K hK => ?_) AllReadyH.nil)
            (refine step_appendG hO 3 rfl rfl (by rfl) (by rfl) (by rfl) Tryd.underlying30 info_ch (by decide) (m := 1) (news := chC ⟨xp, ⟨zt, zd, zb⟩, ⟨wt, wd, wb⟩⟩) (reads_pt hO 0 rfl (off := 0) (fun j u hu => by rw [Nat.zero_add, List.getElem?_toArray]; exact hu)) rfl (chC_one _) (by omega) (by omega) ?_; clear hO; intro a7 c7 w8 hO; simp only [List.set_cons_zero, List.set_cons_succ] at hO)
            refine hK.out _ _ ⟨(HX.out _ (hO.suf sfx)).2.1, (HX.out _ (hO.suf sfx)).2.2.1, (HX.out _ (hO.suf sfx)).2.2.2.1, (HY.out _ (hO.suf sfx)).2.2.1, (HY.out _ (hO.suf sfx)).2.2.2.1⟩ (fun hS => ?_)
            clear hK K
            try simp only [Act.put, sb, s0, sz]
            refine wpAnyH_ready (rs := [16]) (by kernel_rfl) (by simp) ?_
            refine (AllReadyH.cons (o := ⟨none, .store 30 (.tmp 2) (.tmp 59), _, _, _, none⟩) rfl (fun K hK => ?_) AllReadyH.nil)
            (refine step_setC hO 1 rfl (by rfl) (by rfl) (by rfl) (v := .slice a7 (out.length + 1) c7) (by rfl) (by first | (simp [go_sem]; done) | (simp [go_sem]; rfl)) rfl rfl (by simp) ?_; clear hO; intro w9 hO; simp only [List.set_cons_zero, List.set_cons_succ] at hO)
            refine hK.out _ _ ⟨(HX.out _ (hO.suf sfx)).2.1, (HX.out _ (hO.suf sfx)).2.2.1, (HX.out _ (hO.suf sfx)).2.2.2.1, (HY.out _ (hO.suf sfx)).2.2.1, (HY.out _ (hO.suf sfx)).2.2.2.1⟩ (fun hS => ?_)
            clear hK K
            try simp only [Act.put, sb, s0, sz]
            refine wpAnyH_done (by kernel_rfl) ?_ _
          all_goals
            clear hS hE
            have hE := hO.tail
            clear hO
            go_wp2
            refine bodyPost_ret (results_none rfl _ _ _) rfl ?_
            refine ⟨_, rfl, a7, c7, ?_⟩
            have e1 : (out ++ [(⟨xp, ⟨zt, zd, zb⟩, ⟨wt, wd, wb⟩⟩ : Ch)]).length = out.length + 1 := by simp
            unfold boC
            rw [e1, ← rowCh_add]
            exact hE
end Go.Proofs.YtcpgelpajppgdaaDoor
namespace Go.Proofs.YtcpgelpajppgdaaDoor
open Go.RowKit Go.SL

def BoRel54 (N : Nat) (BB : List (Option Ch × Option Ch)) (J : List (Option Ch × Option Ch) → List HProp → Prop) (L0 : List HProp) (lo mo : Value) (wr : World) : Prop :=
  ∃ (n : Nat) (xs : List Ch) (ys : List Ch) (ao bo : Option Addr) (c d : Nat) (done : List (Option Ch × Option Ch)) (L : List HProp), n ≤ N ∧ xs.length + ys.length ≤ n ∧ lo = .slice ao xs.length c ∧ mo = .slice bo ys.length d ∧ xs.length ≤ c ∧ ys.length ≤ d ∧
    Knows L0 (reads (.slice ao xs.length c) xs.length (xs.flatMap chC)) ∧ Knows L0 (reads (.slice bo ys.length d) ys.length (ys.flatMap chC)) ∧ (∀ x ∈ xs, (Ch.path x).length ≤ 100000) ∧ (∀ x ∈ ys, (Ch.path x).length ≤ 100000) ∧
    done ++ bothB Ch.path Ch.path n xs ys = BB ∧ J done L ∧ L0 <:+ L ∧ Ent L wr
set_option maxRecDepth 100000 in
set_option maxHeartbeats 4000000 in
attribute [-go_sem] Instr.loadAt in
theorem both54_any {p1 p2 : Nat} {BB : List (Option Ch × Option Ch)} {J : List (Option Ch × Option Ch) → List HProp → Prop} {L0 : List HProp} {N : Nat}
    (hdo : ∀ done x y px py L w, (∃ r, done ++ (x, y) :: r = BB) → J done L → L0 <:+ L → Ent L w → ptrE L0 chC x px → ptrE L0 chC y py → Calls Tryd.prog 55 #[px, py, .pointer (some ⟨p1, 0, none⟩), .pointer (some ⟨p2, 0, none⟩)] w (Ret fun _ w' => ∃ L', J (done ++ [(x, y)]) L' ∧ L0 <:+ L' ∧ Ent L' w'))
    {xs : List Ch} {ys : List Ch} (hN : xs.length + ys.length ≤ N) (hBB : bothB Ch.path Ch.path N xs ys = BB) {ao bo : Option Addr} {c d : Nat} (hc : xs.length ≤ c) (hd : ys.length ≤ d) (hxl : ∀ x ∈ xs, (Ch.path x).length ≤ 100000) (hyl : ∀ x ∈ ys, (Ch.path x).length ≤ 100000)
    (hx : Knows L0 (reads (.slice ao xs.length c) xs.length (xs.flatMap chC))) (hy : Knows L0 (reads (.slice bo ys.length d) ys.length (ys.flatMap chC))) {L : List HProp} (hJ : J [] L) (hs : L0 <:+ L) {w : World} (hE : Ent L w) :
    Calls Tryd.prog 54 #[.slice ao xs.length c, .slice bo ys.length d, .func (.func 44) #[] #[], .func (.func 44) #[] #[], .func (.func 55) #[] #[.pointer (some ⟨p1, 0, none⟩), .pointer (some ⟨p2, 0, none⟩)]] w (Ret fun _ w' => ∃ L', J BB L' ∧ L0 <:+ L' ∧ Ent L' w') := by
  have Hdo := SL.hid hdo
  clear hdo
  go_enter Tryd.func54, Tryd.ntmps54
  go_wp2
  go_loopw [0, 1] (fun lo mo wr => BoRel54 N BB J L0 lo mo wr) (fun lo mo _ => lenV lo + lenV mo)
  case atStart => exact ⟨N, xs, ys, ao, bo, c, d, [], L, Nat.le_refl _, hN, rfl, rfl, hc, hd, hx, hy, hxl, hyl, hBB, hJ, hs, hE⟩
  case round =>
    clear hE hJ hs hx hy hxl hyl hc hd hBB hN
    clear ao bo c d xs ys L
    obtain ⟨n, xs, ys, ao, bo, c, d, done, L, hnN, hN, rfl, rfl, hc, hd, hx, hy, hxl, hyl, hBB, hJ, hs, hE⟩ := hrel
    cases xs with
    | nil =>
      cases ys with
      | nil =>
        have hz : done = BB := by
          rw [← hBB]
          cases n <;> simp [bothB]
        subst hz
        clear hBB hx hy
        go_wp2
        refine bodyPost_ret (results_none rfl _ _ _) rfl ?_
        exact ⟨_, rfl, L, hJ, hs, hE⟩
      | cons y ys =>
        obtain ⟨n, rfl⟩ : ∃ n', n = n' + 1 := ⟨n - 1, by simp at hN; omega⟩
        simp only [bothB] at hBB
        simp only [List.length_cons, List.length_nil] at hN hd
        obtain ⟨b_y, oy, rfl, hpy, hry, hsly, hldy⟩ := row_ch hd hy (hE.suf hs)
        simp only [List.length_cons, List.length_nil]
        have HX := SL.hid hx
        clear hx hy
        have g1 : (0 : Int) < (ys.length : Int) + 1 := by omega
        have g2 : ¬ ((ys.length : Int) + 1 = 0) := by omega
        go_wp2
        refine wp_region_held_drew (S := (fun _ => True)) (by kernel_rfl) trivial (fun hS => ?_)
        refine tV 0 ⟨some 48, .move (.tmp 1), _, _, _, none⟩ hS ?_
        refine tV 1 ⟨some 49, .indexAddr 30 (.tmp 48) (.const (.int .i64 0)), _, _, _, none⟩ hS ?_
        refine tV 2 ⟨some 50, .move (.tmp 1), _, _, _, none⟩ hS ?_
        refine tV 3 ⟨some 51, .slice 30 (.tmp 50) (some (.const (.int .i64 1))) none none, _, _, _, none⟩ hS ?_
        refine tV 4 ⟨some 12, .assign (.tmp 49), _, _, _, none⟩ hS ?_
        refine tV 5 ⟨some 1, .assign (.tmp 51), _, _, _, none⟩ hS ?_
        refine wpAnyH_done (by kernel_rfl) ?_ _
        all_goals
          clear hS
          replace hE := hE.drew
          go_wp2_with (first
            | go_skip
            | (go_at_call 55; refine (Hdo.out done none (some y) _ _ L _ ⟨_, hBB⟩ hJ hs hE rfl hpy).mono ?_; clear hE; rintro e w5 ⟨v, rfl, L', hJ', hs', hE⟩))
          go_roundw
          case rel => exact ⟨n, [], ys, _, _, _, _, done ++ [(none, (some y))], L', by omega, by (try simp only [List.length_cons, List.length_nil]); omega, rfl, rfl, by (try simp only [List.length_cons, List.length_nil]); omega, by (try simp only [List.length_cons, List.length_nil]); omega, HX.out, hry, hxl, fun z hz => hyl z (by simp [hz]), by rw [List.append_assoc]; exact hBB, hJ', hs', hE⟩
          case measure => simp [lenV] <;> omega
    | cons x xs =>
      cases ys with
      | nil =>
        obtain ⟨n, rfl⟩ : ∃ n', n = n' + 1 := ⟨n - 1, by simp at hN; omega⟩
        simp only [bothB] at hBB
        simp only [List.length_cons, List.length_nil] at hN hc
        obtain ⟨bx, ox, rfl, hpx, hrx, hslx, hldx⟩ := row_ch hc hx (hE.suf hs)
        simp only [List.length_cons, List.length_nil]
        have HY := SL.hid hy
        clear hx hy
        have g1 : (0 : Int) < (xs.length : Int) + 1 := by omega
        have g2 : ¬ ((xs.length : Int) + 1 = 0) := by omega
        go_wp2
        refine wp_region_held_drew (S := (fun _ => True)) (by kernel_rfl) trivial (fun hS => ?_)
        refine tV 0 ⟨some 42, .move (.tmp 0), _, _, _, none⟩ hS ?_
        refine tV 1 ⟨some 43, .indexAddr 30 (.tmp 42) (.const (.int .i64 0)), _, _, _, none⟩ hS ?_
        refine tV 2 ⟨some 44, .move (.tmp 0), _, _, _, none⟩ hS ?_
        refine tV 3 ⟨some 45, .slice 30 (.tmp 44) (some (.const (.int .i64 1))) none none, _, _, _, none⟩ hS ?_
        refine tV 4 ⟨some 11, .assign (.tmp 43), _, _, _, none⟩ hS ?_
        refine tV 5 ⟨some 0, .assign (.tmp 45), _, _, _, none⟩ hS ?_
        refine wpAnyH_done (by kernel_rfl) ?_ _
        all_goals
          clear hS
          replace hE := hE.drew
          go_wp2_with (first
            | go_skip
            | (go_at_call 55; refine (Hdo.out done (some x) none _ _ L _ ⟨_, hBB⟩ hJ hs hE hpx rfl).mono ?_; clear hE; rintro e w5 ⟨v, rfl, L', hJ', hs', hE⟩))
          go_roundw
          case rel => exact ⟨n, xs, [], _, _, _, _, done ++ [((some x), none)], L', by omega, by (try simp only [List.length_cons, List.length_nil]); omega, rfl, rfl, by (try simp only [List.length_cons, List.length_nil]); omega, by (try simp only [List.length_cons, List.length_nil]); omega, hrx, HY.out, fun z hz => hxl z (by simp [hz]), hyl, by rw [List.append_assoc]; exact hBB, hJ', hs', hE⟩
          case measure => simp [lenV] <;> omega
      | cons y ys =>
        obtain ⟨n, rfl⟩ : ∃ n', n = n' + 1 := ⟨n - 1, by simp at hN; omega⟩
        simp only [List.length_cons] at hN hc hd
        obtain ⟨bx, ox, rfl, hpx, hrx, hslx, hldx⟩ := row_ch hc hx (hE.suf hs)
        obtain ⟨b_y, oy, rfl, hpy, hry, hsly, hldy⟩ := row_ch hd hy (hE.suf hs)
        have HO := SL.hid (fun (w : World) (h : Ent L w) => Order_any (p := Ch.path x) (q := Ch.path y) (hxl x (by simp)) (hyl y (by simp)) h)
        simp only [List.length_cons]
        have HX := SL.hid hx
        have HY := SL.hid hy
        clear hx hy
        have g1 : (0 : Int) < (xs.length : Int) + 1 := by omega
        have g2 : ¬ ((xs.length : Int) + 1 = 0) := by omega
        have g3 : (0 : Int) < (ys.length : Int) + 1 := by omega
        have g4 : ¬ ((ys.length : Int) + 1 = 0) := by omega
        rcases ord_cases (Ch.path x) (Ch.path y) with ⟨ho, h1⟩ | ⟨ho, h1, h2⟩ | ⟨ho, h1, h2⟩
        · simp only [bothB, h1, if_true] at hBB
          rw [ho] at HO
          clear ho h1
          go_wp2
          have hO := hE.drew
          refine wp_region_held_drew (S := (fun w' => ((Instr.loadAt 65 (.pointer (some ⟨bx, ox, none⟩))).run Tryd.prog w' = .ok (.agg (chC x).toArray) w') ∧ ((Instr.loadAt 65 (.pointer (some ⟨b_y, oy, none⟩))).run Tryd.prog w' = .ok (.agg (chC y).toArray) w'))) (by kernel_rfl) ⟨(hldx _ (hO.suf hs)), (hldy _ (hO.suf hs))⟩ (fun hS => ?_)
          refine tV 0 ⟨some 21, .move (.tmp 2), _, _, _, none⟩ hS ?_
          refine tV 1 ⟨some 22, .move (.tmp 0), _, _, _, none⟩ hS ?_
          refine tV 2 ⟨some 23, .indexAddr 30 (.tmp 22) (.const (.int .i64 0)), _, _, _, none⟩ hS ?_
          refine tL 3 ⟨some 24, .load 65 (.tmp 23), _, _, _, none⟩ hS ?_
          refine tV 5 ⟨some 26, .move (.tmp 3), _, _, _, none⟩ hS ?_
          refine tV 6 ⟨some 27, .move (.tmp 1), _, _, _, none⟩ hS ?_
          refine tV 7 ⟨some 28, .indexAddr 30 (.tmp 27) (.const (.int .i64 0)), _, _, _, none⟩ hS ?_
          refine tL 8 ⟨some 29, .load 65 (.tmp 28), _, _, _, none⟩ hS ?_
          refine wpAnyH_ready (rs := [4]) (by kernel_rfl) (by simp) ?_
          refine (AllReadyH.cons (o := ⟨some 25, .call { callee := .value (.tmp 21), args := #[.tmp 24], argTypes := #[65] }, _, _, _, none⟩) rfl (fun K hK => ?_) AllReadyH.nil)
          (go_simp; refine (changed_any x hO).mono ?_; clear hO; rintro e w5 ⟨v, rfl, rfl, hO⟩)
          refine hK.out _ _ ⟨(hldx _ (hO.suf hs)), (hldy _ (hO.suf hs))⟩ (fun hS => ?_)
          clear hK K
          try simp only [Act.put, sb, s0, sz]
          refine wpAnyH_ready (rs := [9]) (by kernel_rfl) (by simp) ?_
          refine (AllReadyH.cons (o := ⟨some 30, .call { callee := .value (.tmp 26), args := #[.tmp 29], argTypes := #[65] }, _, _, _, none⟩) rfl (fun K hK => ?_) AllReadyH.nil)
          (go_simp; refine (changed_any y hO).mono ?_; clear hO; rintro e w5 ⟨v, rfl, rfl, hO⟩)
          refine hK.out _ _ ⟨(hldx _ (hO.suf hs)), (hldy _ (hO.suf hs))⟩ (fun hS => ?_)
          clear hK K
          try simp only [Act.put, sb, s0, sz]
          refine wpAnyH_ready (rs := [10]) (by kernel_rfl) (by simp) ?_
          refine (AllReadyH.cons (o := ⟨some 31, .call { callee := .value (.func 17), args := #[.tmp 25, .tmp 30], argTypes := #[9, 9] }, _, _, _, none⟩) rfl (fun K hK => ?_) AllReadyH.nil)
          (go_simp; refine (HO.out _ hO).mono ?_; clear hO; rintro e w5 ⟨v, rfl, rfl, hO⟩)
          refine hK.out _ _ ⟨(hldx _ (hO.suf hs)), (hldy _ (hO.suf hs))⟩ (fun hS => ?_)
          clear hK K
          try simp only [Act.put, sb, s0, sz]
          refine tV 11 ⟨some 10, .assign (.tmp 31), _, _, _, none⟩ hS ?_
          refine wpAnyH_done (by kernel_rfl) ?_ _
          all_goals
            clear hS
            have hE := hO
            go_wp2
            refine wp_region_held_drew (S := (fun _ => True)) (by kernel_rfl) trivial (fun hS => ?_)
            refine tV 0 ⟨some 42, .move (.tmp 0), _, _, _, none⟩ hS ?_
            refine tV 1 ⟨some 43, .indexAddr 30 (.tmp 42) (.const (.int .i64 0)), _, _, _, none⟩ hS ?_
            refine tV 2 ⟨some 44, .move (.tmp 0), _, _, _, none⟩ hS ?_
            refine tV 3 ⟨some 45, .slice 30 (.tmp 44) (some (.const (.int .i64 1))) none none, _, _, _, none⟩ hS ?_
            refine tV 4 ⟨some 11, .assign (.tmp 43), _, _, _, none⟩ hS ?_
            refine tV 5 ⟨some 0, .assign (.tmp 45), _, _, _, none⟩ hS ?_
            refine wpAnyH_done (by kernel_rfl) ?_ _
            all_goals
              clear hS
              replace hE := hE.drew
              go_wp2_with (first
                | go_skip
                | (go_at_call 55; refine (Hdo.out done (some x) none _ _ L _ ⟨_, hBB⟩ hJ hs hE hpx rfl).mono ?_; clear hE; rintro e w5 ⟨v, rfl, L', hJ', hs', hE⟩))
              go_roundw
              case rel => exact ⟨n, xs, (y :: ys), _, _, _, _, done ++ [((some x), none)], L', by omega, by (try simp only [List.length_cons, List.length_nil]); omega, rfl, rfl, by (try simp only [List.length_cons, List.length_nil]); omega, by (try simp only [List.length_cons, List.length_nil]); omega, hrx, HY.out, fun z hz => hxl z (by simp [hz]), hyl, by rw [List.append_assoc]; exact hBB, hJ', hs', hE⟩
              case measure => simp [lenV] <;> omega
        · simp only [bothB, h1, h2, if_true, if_false, Bool.false_eq_true] at hBB
          rw [ho] at HO
          clear ho h1 h2
          go_wp2
          have hO := hE.drew
          refine wp_region_held_drew (S := (fun w' => ((Instr.loadAt 65 (.pointer (some ⟨bx, ox, none⟩))).run Tryd.prog w' = .ok (.agg (chC x).toArray) w') ∧ ((Instr.loadAt 65 (.pointer (some ⟨b_y, oy, none⟩))).run Tryd.prog w' = .ok (.agg (chC y).toArray) w'))) (by kernel_rfl) ⟨(hldx _ (hO.suf hs)), (hldy _ (hO.suf hs))⟩ (fun hS => ?_)
          refine tV 0 ⟨some 21, .move (.tmp 2), _, _, _, none⟩ hS ?_
          refine tV 1 ⟨some 22, .move (.tmp 0), _, _, _, none⟩ hS ?_
          refine tV 2 ⟨some 23, .indexAddr 30 (.tmp 22) (.const (.int .i64 0)), _, _, _, none⟩ hS ?_
          refine tL 3 ⟨some 24, .load 65 (.tmp 23), _, _, _, none⟩ hS ?_
          refine tV 5 ⟨some 26, .move (.tmp 3), _, _, _, none⟩ hS ?_
          refine tV 6 ⟨some 27, .move (.tmp 1), _, _, _, none⟩ hS ?_
          refine tV 7 ⟨some 28, .indexAddr 30 (.tmp 27) (.const (.int .i64 0)), _, _, _, none⟩ hS ?_
          refine tL 8 ⟨some 29, .load 65 (.tmp 28), _, _, _, none⟩ hS ?_
          refine wpAnyH_ready (rs := [4]) (by kernel_rfl) (by simp) ?_
          refine (AllReadyH.cons (o := ⟨some 25, .call { callee := .value (.tmp 21), args := #[.tmp 24], argTypes := #[65] }, _, _, _, none⟩) rfl (fun K hK => ?_) AllReadyH.nil)
          (go_simp; refine (changed_any x hO).mono ?_; clear hO; rintro e w5 ⟨v, rfl, rfl, hO⟩)
          refine hK.out _ _ ⟨(hldx _ (hO.suf hs)), (hldy _ (hO.suf hs))⟩ (fun hS => ?_)
          clear hK K
          try simp only [Act.put, sb, s0, sz]
          refine wpAnyH_ready (rs := [9]) (by kernel_rfl) (by simp) ?_
          refine (AllReadyH.cons (o := ⟨some 30, .call { callee := .value (.tmp 26), args := #[.tmp 29], argTypes := #[65] }, _, _, _, none⟩) rfl (fun K hK => ?_) AllReadyH.nil)
          (go_simp; refine (changed_any y hO).mono ?_; clear hO; rintro e w5 ⟨v, rfl, rfl, hO⟩)
          refine hK.out _ _ ⟨(hldx _ (hO.suf hs)), (hldy _ (hO.suf hs))⟩ (fun hS => ?_)
          clear hK K
          try simp only [Act.put, sb, s0, sz]
          refine wpAnyH_ready (rs := [10]) (by kernel_rfl) (by simp) ?_
          refine (AllReadyH.cons (o := ⟨some 31, .call { callee := .value (.func 17), args := #[.tmp 25, .tmp 30], argTypes := #[9, 9] }, _, _, _, none⟩) rfl (fun K hK => ?_) AllReadyH.nil)
          (go_simp; refine (HO.out _ hO).mono ?_; clear hO; rintro e w5 ⟨v, rfl, rfl, hO⟩)
          refine hK.out _ _ ⟨(hldx _ (hO.suf hs)), (hldy _ (hO.suf hs))⟩ (fun hS => ?_)
          clear hK K
          try simp only [Act.put, sb, s0, sz]
          refine tV 11 ⟨some 10, .assign (.tmp 31), _, _, _, none⟩ hS ?_
          refine wpAnyH_done (by kernel_rfl) ?_ _
          all_goals
            clear hS
            have hE := hO
            go_wp2
            refine wp_region_held_drew (S := (fun _ => True)) (by kernel_rfl) trivial (fun hS => ?_)
            refine tV 0 ⟨some 48, .move (.tmp 1), _, _, _, none⟩ hS ?_
            refine tV 1 ⟨some 49, .indexAddr 30 (.tmp 48) (.const (.int .i64 0)), _, _, _, none⟩ hS ?_
            refine tV 2 ⟨some 50, .move (.tmp 1), _, _, _, none⟩ hS ?_
            refine tV 3 ⟨some 51, .slice 30 (.tmp 50) (some (.const (.int .i64 1))) none none, _, _, _, none⟩ hS ?_
            refine tV 4 ⟨some 12, .assign (.tmp 49), _, _, _, none⟩ hS ?_
            refine tV 5 ⟨some 1, .assign (.tmp 51), _, _, _, none⟩ hS ?_
            refine wpAnyH_done (by kernel_rfl) ?_ _
            all_goals
              clear hS
              replace hE := hE.drew
              go_wp2_with (first
                | go_skip
                | (go_at_call 55; refine (Hdo.out done none (some y) _ _ L _ ⟨_, hBB⟩ hJ hs hE rfl hpy).mono ?_; clear hE; rintro e w5 ⟨v, rfl, L', hJ', hs', hE⟩))
              go_roundw
              case rel => exact ⟨n, (x :: xs), ys, _, _, _, _, done ++ [(none, (some y))], L', by omega, by (try simp only [List.length_cons, List.length_nil]); omega, rfl, rfl, by (try simp only [List.length_cons, List.length_nil]); omega, by (try simp only [List.length_cons, List.length_nil]); omega, HX.out, hry, hxl, fun z hz => hyl z (by simp [hz]), by rw [List.append_assoc]; exact hBB, hJ', hs', hE⟩
              case measure => simp [lenV] <;> omega
        · simp only [bothB, h1, h2, if_false, Bool.false_eq_true] at hBB
          rw [ho] at HO
          clear ho h1 h2
          go_wp2
          have hO := hE.drew
          refine wp_region_held_drew (S := (fun w' => ((Instr.loadAt 65 (.pointer (some ⟨bx, ox, none⟩))).run Tryd.prog w' = .ok (.agg (chC x).toArray) w') ∧ ((Instr.loadAt 65 (.pointer (some ⟨b_y, oy, none⟩))).run Tryd.prog w' = .ok (.agg (chC y).toArray) w'))) (by kernel_rfl) ⟨(hldx _ (hO.suf hs)), (hldy _ (hO.suf hs))⟩ (fun hS => ?_)
          refine tV 0 ⟨some 21, .move (.tmp 2), _, _, _, none⟩ hS ?_
          refine tV 1 ⟨some 22, .move (.tmp 0), _, _, _, none⟩ hS ?_
          refine tV 2 ⟨some 23, .indexAddr 30 (.tmp 22) (.const (.int .i64 0)), _, _, _, none⟩ hS ?_
          refine tL 3 ⟨some 24, .load 65 (.tmp 23), _, _, _, none⟩ hS ?_
          refine tV 5 ⟨some 26, .move (.tmp 3), _, _, _, none⟩ hS ?_
          refine tV 6 ⟨some 27, .move (.tmp 1), _, _, _, none⟩ hS ?_
          refine tV 7 ⟨some 28, .indexAddr 30 (.tmp 27) (.const (.int .i64 0)), _, _, _, none⟩ hS ?_
          refine tL 8 ⟨some 29, .load 65 (.tmp 28), _, _, _, none⟩ hS ?_
          refine wpAnyH_ready (rs := [4]) (by kernel_rfl) (by simp) ?_
          refine (AllReadyH.cons (o := ⟨some 25, .call { callee := .value (.tmp 21), args := #[.tmp 24], argTypes := #[65] }, _, _, _, none⟩) rfl (fun K hK => ?_) AllReadyH.nil)
          (go_simp; refine (changed_any x hO).mono ?_; clear hO; rintro e w5 ⟨v, rfl, rfl, hO⟩)
          refine hK.out _ _ ⟨(hldx _ (hO.suf hs)), (hldy _ (hO.suf hs))⟩ (fun hS => ?_)
          clear hK K
          try simp only [Act.put, sb, s0, sz]
          refine wpAnyH_ready (rs := [9]) (by kernel_rfl) (by simp) ?_
          refine (AllReadyH.cons (o := ⟨some 30, .call { callee := .value (.tmp 26), args := #[.tmp 29], argTypes := #[65] }, _, _, _, none⟩) rfl (fun K hK => ?_) AllReadyH.nil)
          (go_simp; refine (changed_any y hO).mono ?_; clear hO; rintro e w5 ⟨v, rfl, rfl, hO⟩)
          refine hK.out _ _ ⟨(hldx _ (hO.suf hs)), (hldy _ (hO.suf hs))⟩ (fun hS => ?_)
          clear hK K
          try simp only [Act.put, sb, s0, sz]
          refine wpAnyH_ready (rs := [10]) (by kernel_rfl) (by simp) ?_
          refine (AllReadyH.cons (o := ⟨some 31, .call { callee := .value (.func 17), args := #[.tmp 25, .tmp 30], argTypes := #[9, 9] }, _, _, _, none⟩) rfl (fun K hK => ?_) AllReadyH.nil)
          (go_simp; refine (HO.out _ hO).mono ?_; clear hO; rintro e w5 ⟨v, rfl, rfl, hO⟩)
          refine hK.out _ _ ⟨(hldx _ (hO.suf hs)), (hldy _ (hO.suf hs))⟩ (fun hS => ?_)
          clear hK K
          try simp only [Act.put, sb, s0, sz]
          refine tV 11 ⟨some 10, .assign (.tmp 31), _, _, _, none⟩ hS ?_
          refine wpAnyH_done (by kernel_rfl) ?_ _
          all_goals
            clear hS
            have hE := hO
            go_wp2
            refine wp_region_held_drew (S := (fun _ => True)) (by kernel_rfl) trivial (fun hS => ?_)
            refine tV 0 ⟨some 42, .move (.tmp 0), _, _, _, none⟩ hS ?_
            refine tV 1 ⟨some 43, .indexAddr 30 (.tmp 42) (.const (.int .i64 0)), _, _, _, none⟩ hS ?_
            refine tV 2 ⟨some 44, .move (.tmp 0), _, _, _, none⟩ hS ?_
            refine tV 3 ⟨some 45, .slice 30 (.tmp 44) (some (.const (.int .i64 1))) none none, _, _, _, none⟩ hS ?_
            refine tV 4 ⟨some 11, .assign (.tmp 43), _, _, _, none⟩ hS ?_
            refine tV 5 ⟨some 0, .assign (.tmp 45), _, _, _, none⟩ hS ?_
            refine wpAnyH_done (by kernel_rfl) ?_ _
            all_goals
              clear hS
              replace hE := hE.drew
              go_wp2
              refine wp_region_held_drew (S := (fun _ => True)) (by kernel_rfl) trivial (fun hS => ?_)
              refine tV 0 ⟨some 48, .move (.tmp 1), _, _, _, none⟩ hS ?_
              refine tV 1 ⟨some 49, .indexAddr 30 (.tmp 48) (.const (.int .i64 0)), _, _, _, none⟩ hS ?_
              refine tV 2 ⟨some 50, .move (.tmp 1), _, _, _, none⟩ hS ?_
              refine tV 3 ⟨some 51, .slice 30 (.tmp 50) (some (.const (.int .i64 1))) none none, _, _, _, none⟩ hS ?_
              refine tV 4 ⟨some 12, .assign (.tmp 49), _, _, _, none⟩ hS ?_
              refine tV 5 ⟨some 1, .assign (.tmp 51), _, _, _, none⟩ hS ?_
              refine wpAnyH_done (by kernel_rfl) ?_ _
              all_goals
                clear hS
                replace hE := hE.drew
                go_wp2_with (first
                  | go_skip
                  | (go_at_call 55; refine (Hdo.out done (some x) (some y) _ _ L _ ⟨_, hBB⟩ hJ hs hE hpx hpy).mono ?_; clear hE; rintro e w5 ⟨v, rfl, L', hJ', hs', hE⟩))
                go_roundw
                case rel => exact ⟨n, xs, ys, _, _, _, _, done ++ [((some x), (some y))], L', by omega, by (try simp only [List.length_cons, List.length_nil]); omega, rfl, rfl, by (try simp only [List.length_cons, List.length_nil]); omega, by (try simp only [List.length_cons, List.length_nil]); omega, hrx, hry, fun z hz => hxl z (by simp [hz]), fun z hz => hyl z (by simp [hz]), by rw [List.append_assoc]; exact hBB, hJ', hs', hE⟩
                case measure => simp [lenV] <;> omega
end Go.Proofs.YtcpgelpajppgdaaDoor
