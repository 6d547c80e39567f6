/-
  Is every one of some so? (The program's own function over the library's slices.ContainsFunc, at texts and at numbers.) Printed by gen_nd3.py.
-/
import Derived.Test.YtohdljcpaogokaaNd2
import Derived.Shelf.Lay
namespace Go.Proofs.Ytohdljcpaogokaa
open Go.RowKit Go.SL

def strv (s : List UInt8) : Value := .string ⟨s.toArray⟩
def intv (n : Int) : Value := .int .i64 n
/-- a function value that tells something of one thing, and lets memory be -/
def Tells {α : Type} (k : FuncId) (caps : Array Value) (L : List HProp) (enc : α → Value) (p : α → Bool) : Prop :=
  ∀ (m : List HProp) (x : α) (w : World), Ent (m ++ L) w → Calls Try.prog k (#[enc x] ++ caps) w (Ret fun v w' => v = .bool (p x) ∧ Ent (m ++ L) w')
def idxP {α : Type} (p : α → Bool) (xs : List α) : Int := match xs.findIdx? p with | some i => i | none => -1
theorem idxP_some {α : Type} {p : α → Bool} {xs : List α} {k : Nat} (hk : k < xs.length) (h : ∀ x ∈ xs.take k, p x = false) (hp : p xs[k] = true) : idxP p xs = k := by
  have e : xs.findIdx? p = some k := by
    rw [List.findIdx?_eq_some_iff_getElem]
    refine ⟨hk, hp, fun j hj => ?_⟩
    have := h xs[j] (by rw [List.mem_take_iff_getElem]; exact ⟨j, by omega, rfl⟩)
    simp [this]
  rw [idxP, e]
theorem idxP_none {α : Type} {p : α → Bool} {xs : List α} (h : ∀ x ∈ xs, p x = false) : idxP p xs = -1 := by
  have e : xs.findIdx? p = none := by
    rw [List.findIdx?_eq_none_iff]
    exact h
  rw [idxP, e]
theorem idxP_any {α : Type} (p : α → Bool) (xs : List α) : decide (0 ≤ idxP p xs) = xs.any p := by
  unfold idxP
  cases h : xs.findIdx? p with
  | none =>
    rw [List.findIdx?_eq_none_iff] at h
    have : xs.any p = false := List.any_eq_false.2 fun x hx => by simp [h x hx]
    rw [this]; rfl
  | some i =>
    rw [List.findIdx?_eq_some_iff_getElem] at h
    obtain ⟨hi, hp, _⟩ := h
    have : xs.any p = true := List.any_eq_true.2 ⟨_, List.getElem_mem hi, hp⟩
    rw [this]
    exact decide_eq_true (show (0 : Int) ≤ (i : Int) by omega)
theorem take_snoc_all {α : Type} {p : α → Bool} {xs : List α} {k : Nat} (hk : k < xs.length) (h : ∀ x ∈ xs.take k, p x = false) (hp : p xs[k] = false) : ∀ x ∈ xs.take (k + 1), p x = false := by
  intro x hx
  rw [List.take_succ_eq_append_getElem hk, List.mem_append, List.mem_singleton] at hx
  rcases hx with hx | rfl
  · exact h x hx
  · exact hp
def IxRel {α : Type} (p : α → Bool) (xs : List α) (l : List HProp) (i : Value) (wr : World) : Prop := ∃ k : Nat, k ≤ xs.length ∧ i = .int .i64 k ∧ (∀ x ∈ xs.take k, p x = false) ∧ Ent l wr
theorem reads_map {α : Type} {enc : α → Value} {w : World} {ao : Option Addr} {c : Nat} {xs : List α} (hr : reads (.slice ao xs.length c) xs.length (xs.map enc) w) {i : Nat} (hi : i < xs.length) : ∃ b off, ao = some ⟨b, off, none⟩ ∧ w.cell? ⟨b, off + i, none⟩ = some (enc xs[i]) := by
  obtain ⟨b, off, e, h⟩ := reads_form hr (by omega) (by simp; omega)
  exact ⟨b, off, e, h i _ (by simp [List.getElem?_eq_getElem hi])⟩


set_option maxRecDepth 100000 in
theorem IndexS_any {k : FuncId} {caps : Array Value} {p : (List UInt8) → Bool} (ek : ∀ (args : Array Value) (w : World), (callFunc k args).run Try.prog w = .ok (.enter k args) w) {l : List HProp} (ht : Tells k caps l strv p) {xs : List (List UInt8)} (hn : xs.length ≤ 1000000) {ao : Option Addr} {c : Nat} {w : World} (hE : Ent l w) (hk : Knows l (reads (.slice ao xs.length c) xs.length (xs.map strv))) :
    Calls Try.prog 131 #[.slice ao xs.length c, .func (.func k) #[] caps] w (Ret fun v w' => v = .int .i64 (idxP p xs) ∧ Ent l w') := by
  have ht0 : ∀ x w, Ent l w → Calls Try.prog k (#[strv x] ++ caps) w (Ret fun v w' => v = .bool (p x) ∧ Ent l w') := fun x w h => ht [] x w h
  clear ht
  go_enter Try.func131, Try.ntmps131
  go_wp2
  go_loopw [5, 8] (fun _ i wr => IxRel p xs l i wr) (fun _ i _ => xs.length - (intOf i).toNat)
  case atStart => exact ⟨0, Nat.zero_le _, rfl, by simp, hE⟩
  case round =>
    clear hE
    obtain ⟨j, hjl, rfl, hno, hE⟩ := hrel
    by_cases hlt : j < xs.length
    · obtain ⟨b, off, rfl, k0⟩ := reads_map (hk _ hE) hlt
      have Hs := SL.hid (take_snoc_all hlt hno)
      have Hf := SL.hid (idxP_some (p := p) hlt hno)
      clear hno
      have hT := ht0 xs[j]
      clear ht0
      generalize xs[j] = x at *
      rw [strv] at k0
      simp only [strv] at hT
      cases hp : p x with
      | true =>
        have Hr := SL.hid (Hf.out hp)
        rw [hp] at hT
        clear hp
        go_wp2_with (first
          | go_skip
          | (go_at_fn k; refine (hT _ hE).mono ?_; clear hE; rintro e w2 ⟨v, rfl, rfl, hE⟩))
        go_ret
        exact ⟨_, rfl, by rw [Hr.out]; rfl, hE⟩
      | false =>
        have Hr := SL.hid (Hs.out hp)
        rw [hp] at hT
        clear hp
        go_wp2_with (first
          | go_skip
          | (go_at_fn k; refine (hT _ hE).mono ?_; clear hE; rintro e w2 ⟨v, rfl, rfl, hE⟩))
        go_roundw
        case rel => exact ⟨j + 1, hlt, by first | rfl | simp, Hr.out, hE⟩
        case measure => simp [intOf] <;> omega
    · have Hr := SL.hid (show idxP p xs = -1 from idxP_none (by rwa [show j = xs.length by omega, List.take_length] at hno))
      clear hno ht0
      go_wp2
      go_ret
      exact ⟨_, rfl, by rw [Hr.out]; rfl, hE⟩

set_option maxRecDepth 100000 in
theorem ContainsS_any {k : FuncId} {caps : Array Value} {p : (List UInt8) → Bool} (ek : ∀ (args : Array Value) (w : World), (callFunc k args).run Try.prog w = .ok (.enter k args) w) {l : List HProp} (ht : Tells k caps l strv p) {xs : List (List UInt8)} (hn : xs.length ≤ 1000000) {ao : Option Addr} {c : Nat} {w : World} (hE : Ent l w) (hk : Knows l (reads (.slice ao xs.length c) xs.length (xs.map strv))) :
    Calls Try.prog 126 #[.slice ao xs.length c, .func (.func k) #[] caps] w (Ret fun v w' => v = .bool (xs.any p) ∧ Ent l w') := by
  have H := IndexS_any ek ht hn hE hk
  have R := SL.hid (idxP_any p xs)
  clear ht hE hk
  generalize idxP p xs = i at *
  go_enter Try.func126, Try.ntmps126
  go_wp2_with (first
    | go_skip
    | (go_at_call 131; refine H.mono ?_; clear H; rintro e w2 ⟨v, rfl, rfl, hE⟩))
  all_goals
    go_ret
    exact ⟨_, rfl, by rw [← R.out]; rfl, hE⟩

set_option maxRecDepth 100000 in
theorem everyS_any {k : FuncId} {caps : Array Value} {p : (List UInt8) → Bool} (ek : ∀ (args : Array Value) (w : World), (callFunc k args).run Try.prog w = .ok (.enter k args) w) {l : List HProp} (ht : Tells k caps l strv p) {xs : List (List UInt8)} (hn : xs.length ≤ 1000000) {ao : Option Addr} {c : Nat} {w : World} (hE : Ent l w) (hk : Knows l (reads (.slice ao xs.length c) xs.length (xs.map strv))) :
    Calls Try.prog 116 #[.slice ao xs.length c, .func (.func k) #[] caps] w (Ret fun v w' => v = .bool (xs.all p) ∧ Ent l w') := by
  have hT : ∀ b3 : Nat, ∀ T : TypeId, Tells 127 #[.pointer (some ⟨b3, 0, none⟩)] (pt b3 (.cells #[.func (.func k) #[] caps] T) :: l) strv (fun x => !p x) := fun b3 T m x w hE => by
    have hc : w.cell? ⟨b3, 0, none⟩ = some (.func (.func k) #[] caps) := hE.drop.cell 0 rfl 0
    have h1 := ht (m ++ [pt b3 (.cells #[.func (.func k) #[] caps] T)]) x w (by rw [List.append_assoc]; exact hE)
    rw [List.append_assoc] at h1
    clear ht
    simp only [strv, List.cons_append, List.nil_append] at h1 ⊢
    generalize p x = y at *
    show Calls Try.prog 127 #[_, .pointer (some ⟨b3, 0, none⟩)] w _
    cases y
    all_goals
      go_enter Try.func127, Try.ntmps127
      go_wp2_with (first
        | go_skip
        | (go_at_fn k; refine h1.mono ?_; clear h1; rintro e w2 ⟨v, rfl, rfl, hE⟩))
      go_ret
      exact ⟨_, rfl, rfl, hE⟩
  have R := SL.hid (show xs.all p = !(xs.any fun x => !p x) by simp [List.all_eq_not_any_not])
  go_enter Try.func116, Try.ntmps116
  generalize hz : (xs.any fun x => !p x) = z at *
  have Hz := SL.hid hz
  clear hz
  cases z
  all_goals
    go_wp2_with (first
      | go_skip
      | ((with_reducible (show Go.wpList _ _ _ (Go.Oper.mk _ (.box _ _) _ _ _ _ :: _) _ _)); refine wpl_box hE rfl rfl rfl ?_; clear hE; intro b3 w hE; simp only [Act.eval, Act.put, List.setIfInBounds_toArray, List.set_cons_zero, List.set_cons_succ, getD_lit, List.getD_cons_succ, List.getD_cons_zero, Value.cells] at hE)
      | (go_at_call 126; have H := ContainsS_any Try.call127 (hT b3 _) hn hE hk.cons; rw [Hz.out] at H; refine H.mono ?_; clear H hE; rintro e w2 ⟨v, rfl, rfl, hE⟩))
    go_ret
    exact ⟨_, rfl, by rw [R.out]; rfl, hE.tail⟩


set_option maxRecDepth 100000 in
theorem IndexI_any {k : FuncId} {caps : Array Value} {p : Int → Bool} (ek : ∀ (args : Array Value) (w : World), (callFunc k args).run Try.prog w = .ok (.enter k args) w) {l : List HProp} (ht : Tells k caps l intv p) {xs : List Int} (hn : xs.length ≤ 1000000) {ao : Option Addr} {c : Nat} {w : World} (hE : Ent l w) (hk : Knows l (reads (.slice ao xs.length c) xs.length (xs.map intv))) :
    Calls Try.prog 128 #[.slice ao xs.length c, .func (.func k) #[] caps] w (Ret fun v w' => v = .int .i64 (idxP p xs) ∧ Ent l w') := by
  have ht0 : ∀ x w, Ent l w → Calls Try.prog k (#[intv x] ++ caps) w (Ret fun v w' => v = .bool (p x) ∧ Ent l w') := fun x w h => ht [] x w h
  clear ht
  go_enter Try.func128, Try.ntmps128
  go_wp2
  go_loopw [5, 8] (fun _ i wr => IxRel p xs l i wr) (fun _ i _ => xs.length - (intOf i).toNat)
  case atStart => exact ⟨0, Nat.zero_le _, rfl, by simp, hE⟩
  case round =>
    clear hE
    obtain ⟨j, hjl, rfl, hno, hE⟩ := hrel
    by_cases hlt : j < xs.length
    · obtain ⟨b, off, rfl, k0⟩ := reads_map (hk _ hE) hlt
      have Hs := SL.hid (take_snoc_all hlt hno)
      have Hf := SL.hid (idxP_some (p := p) hlt hno)
      clear hno
      have hT := ht0 xs[j]
      clear ht0
      generalize xs[j] = x at *
      rw [intv] at k0
      simp only [intv] at hT
      cases hp : p x with
      | true =>
        have Hr := SL.hid (Hf.out hp)
        rw [hp] at hT
        clear hp
        go_wp2_with (first
          | go_skip
          | (go_at_fn k; refine (hT _ hE).mono ?_; clear hE; rintro e w2 ⟨v, rfl, rfl, hE⟩))
        go_ret
        exact ⟨_, rfl, by rw [Hr.out]; rfl, hE⟩
      | false =>
        have Hr := SL.hid (Hs.out hp)
        rw [hp] at hT
        clear hp
        go_wp2_with (first
          | go_skip
          | (go_at_fn k; refine (hT _ hE).mono ?_; clear hE; rintro e w2 ⟨v, rfl, rfl, hE⟩))
        go_roundw
        case rel => exact ⟨j + 1, hlt, by first | rfl | simp, Hr.out, hE⟩
        case measure => simp [intOf] <;> omega
    · have Hr := SL.hid (show idxP p xs = -1 from idxP_none (by rwa [show j = xs.length by omega, List.take_length] at hno))
      clear hno ht0
      go_wp2
      go_ret
      exact ⟨_, rfl, by rw [Hr.out]; rfl, hE⟩

set_option maxRecDepth 100000 in
theorem ContainsI_any {k : FuncId} {caps : Array Value} {p : Int → Bool} (ek : ∀ (args : Array Value) (w : World), (callFunc k args).run Try.prog w = .ok (.enter k args) w) {l : List HProp} (ht : Tells k caps l intv p) {xs : List Int} (hn : xs.length ≤ 1000000) {ao : Option Addr} {c : Nat} {w : World} (hE : Ent l w) (hk : Knows l (reads (.slice ao xs.length c) xs.length (xs.map intv))) :
    Calls Try.prog 118 #[.slice ao xs.length c, .func (.func k) #[] caps] w (Ret fun v w' => v = .bool (xs.any p) ∧ Ent l w') := by
  have H := IndexI_any ek ht hn hE hk
  have R := SL.hid (idxP_any p xs)
  clear ht hE hk
  generalize idxP p xs = i at *
  go_enter Try.func118, Try.ntmps118
  go_wp2_with (first
    | go_skip
    | (go_at_call 128; refine H.mono ?_; clear H; rintro e w2 ⟨v, rfl, rfl, hE⟩))
  all_goals
    go_ret
    exact ⟨_, rfl, by rw [← R.out]; rfl, hE⟩

set_option maxRecDepth 100000 in
theorem everyI_any {k : FuncId} {caps : Array Value} {p : Int → Bool} (ek : ∀ (args : Array Value) (w : World), (callFunc k args).run Try.prog w = .ok (.enter k args) w) {l : List HProp} (ht : Tells k caps l intv p) {xs : List Int} (hn : xs.length ≤ 1000000) {ao : Option Addr} {c : Nat} {w : World} (hE : Ent l w) (hk : Knows l (reads (.slice ao xs.length c) xs.length (xs.map intv))) :
    Calls Try.prog 105 #[.slice ao xs.length c, .func (.func k) #[] caps] w (Ret fun v w' => v = .bool (xs.all p) ∧ Ent l w') := by
  have hT : ∀ b3 : Nat, ∀ T : TypeId, Tells 119 #[.pointer (some ⟨b3, 0, none⟩)] (pt b3 (.cells #[.func (.func k) #[] caps] T) :: l) intv (fun x => !p x) := fun b3 T m x w hE => by
    have hc : w.cell? ⟨b3, 0, none⟩ = some (.func (.func k) #[] caps) := hE.drop.cell 0 rfl 0
    have h1 := ht (m ++ [pt b3 (.cells #[.func (.func k) #[] caps] T)]) x w (by rw [List.append_assoc]; exact hE)
    rw [List.append_assoc] at h1
    clear ht
    simp only [intv, List.cons_append, List.nil_append] at h1 ⊢
    generalize p x = y at *
    show Calls Try.prog 119 #[_, .pointer (some ⟨b3, 0, none⟩)] w _
    cases y
    all_goals
      go_enter Try.func119, Try.ntmps119
      go_wp2_with (first
        | go_skip
        | (go_at_fn k; refine h1.mono ?_; clear h1; rintro e w2 ⟨v, rfl, rfl, hE⟩))
      go_ret
      exact ⟨_, rfl, rfl, hE⟩
  have R := SL.hid (show xs.all p = !(xs.any fun x => !p x) by simp [List.all_eq_not_any_not])
  go_enter Try.func105, Try.ntmps105
  generalize hz : (xs.any fun x => !p x) = z at *
  have Hz := SL.hid hz
  clear hz
  cases z
  all_goals
    go_wp2_with (first
      | go_skip
      | ((with_reducible (show Go.wpList _ _ _ (Go.Oper.mk _ (.box _ _) _ _ _ _ :: _) _ _)); refine wpl_box hE rfl rfl rfl ?_; clear hE; intro b3 w hE; simp only [Act.eval, Act.put, List.setIfInBounds_toArray, List.set_cons_zero, List.set_cons_succ, getD_lit, List.getD_cons_succ, List.getD_cons_zero, Value.cells] at hE)
      | (go_at_call 118; have H := ContainsI_any Try.call119 (hT b3 _) hn hE hk.cons; rw [Hz.out] at H; refine H.mono ?_; clear H hE; rintro e w2 ⟨v, rfl, rfl, hE⟩))
    go_ret
    exact ⟨_, rfl, by rw [R.out]; rfl, hE.tail⟩


set_option maxRecDepth 100000 in
theorem wideT_any {xs : List (List UInt8)} {n : Int} (hn : xs.length ≤ 1000000) {ao : Option Addr} {c : Nat} {l : List HProp} {w : World} (hE : Ent l w) (hk : Knows l (reads (.slice ao xs.length c) xs.length (xs.map strv))) :
    Calls Try.prog 104 #[.slice ao xs.length c, .int .i64 n] w (Ret fun v w' => v = .bool (wideL xs n) ∧ Ent l w') := by
  have hT : ∀ b3 : Nat, Tells 117 #[.pointer (some ⟨b3, 0, none⟩)] (pt b3 (.cells #[.int .i64 n] 3) :: l) strv (fun s => ((s.length : Int) == n)) := fun b3 m x w hE => by
    have hc : w.cell? ⟨b3, 0, none⟩ = some (.int .i64 n) := hE.drop.cell 0 rfl 0
    simp only [strv]
    show Calls Try.prog 117 #[_, .pointer (some ⟨b3, 0, none⟩)] w _
    cases hy : ((x.length : Int) == n)
    all_goals
      go_enter Try.func117, Try.ntmps117
      go_wp2
      go_ret
      exact ⟨_, rfl, rfl, hE⟩
  have R := SL.hid (show wideL xs n = xs.all fun s => ((s.length : Int) == n) from rfl)
  generalize wideL xs n = z at *
  go_enter Try.func104, Try.ntmps104
  go_wp2_with (first
    | go_skip
    | ((with_reducible (show Go.wpList _ _ _ (Go.Oper.mk _ (.box _ _) _ _ _ _ :: _) _ _)); refine wpl_box hE rfl rfl rfl ?_; clear hE; intro b3 w hE; simp only [Act.eval, Act.put, List.setIfInBounds_toArray, List.set_cons_zero, List.set_cons_succ, getD_lit, List.getD_cons_succ, List.getD_cons_zero, Value.cells] at hE)
    | (go_at_call 116; have H := everyS_any Try.call117 (hT b3) hn hE hk.cons; rw [← R.out] at H; refine H.mono ?_; clear H hE; rintro e w2 ⟨v, rfl, rfl, hE⟩))
  go_ret
  exact ⟨_, rfl, rfl, hE.tail⟩

set_option maxRecDepth 100000 in
theorem kidOk_any {l : List HProp} : Tells 106 #[] l intv kidOk := fun m x w hE => by
  have R := SL.hid (show kidOk x = (decide (1 ≤ x) && decide (x < 1024)) from rfl)
  generalize kidOk x = z at *
  simp only [intv]
  show Calls Try.prog 106 #[_] w _
  cases h1 : decide ((1 : Int) ≤ x) with
  | false =>
    have R1 := SL.hid (show z = false by rw [R.out, h1]; rfl)
    go_enter Try.func106, Try.ntmps106
    go_wp2
    go_ret
    exact ⟨_, rfl, by rw [R1.out]; rfl, hE⟩
  | true =>
    cases h2 : decide (x < (1024 : Int))
    all_goals
      have R1 := SL.hid (R.out.trans (show _ = decide (x < (1024 : Int)) by rw [h1]; rfl))
      rw [h2] at R1
      go_enter Try.func106, Try.ntmps106
      go_wp2
      go_ret
      exact ⟨_, rfl, by rw [R1.out]; rfl, hE⟩
end Go.Proofs.Ytohdljcpaogokaa
