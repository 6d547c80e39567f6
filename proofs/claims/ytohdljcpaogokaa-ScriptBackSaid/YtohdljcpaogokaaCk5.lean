/-
  Whether a chunk may be, as the program tells it.
-/
import Derived.Test.YtohdljcpaogokaaCk4
import Derived.Deep.RegionHeld3
namespace Go.Proofs.Ytohdljcpaogokaa
open Go.RowKit Go.SL

set_option maxRecDepth 100000 in
theorem may_high {u : UInt8} {data : List UInt8} {ks : List Kid} {ao : Option Addr} {c : Nat} (hg : ∀ k ∈ ks, k.good) (hb : ks.length ≤ 1000000) (h : decide ((255 : Int) < (hgtB u ks : Int)) = true) {l : List HProp} {w : World} (hE : Ent l w) (hk : Knows l (reads (.slice ao ks.length c) ks.length (kidCells ks))) :
    Calls Try.prog 66 #[.agg #[.int .u8 u.toNat, .string ⟨data.toArray⟩, .slice ao ks.length c]] w (Ret fun v w' => v = .bool false ∧ Ent l w') := by
  have Hg := SL.hid hg
  clear hg
  go_enter Try.func66, Try.ntmps66
  go_wp2_with (first
    | go_skip
    | ((with_reducible (show Go.wpList _ _ _ (Go.Oper.mk _ (.box _ _) _ _ _ _ :: _) _ _)); refine wpl_box hE rfl rfl rfl ?_; clear hE; intro b1 w hE; simp only [Act.eval, Act.put, List.setIfInBounds_toArray, List.set_cons_zero, List.set_cons_succ, getD_lit, List.getD_cons_succ, List.getD_cons_zero, Value.cells] at hE)
    | (refine wpl_loadW hE 0 rfl rfl rfl rfl Try.isAgg39 Try.sizeOf39 (xs := [.int .u8 u.toNat, .string ⟨data.toArray⟩, .slice ao ks.length c]) rfl ?_)
    | (go_at_call 24; have H := Height_any (u := u) (data := data) Hg.out hb hE hk.cons; refine H.mono ?_; clear H hE; rintro e w2 ⟨v, rfl, rfl, hE⟩))
  go_ret
  exact ⟨_, rfl, rfl, hE.tail⟩

set_option maxRecDepth 100000 in
theorem may_many {u : UInt8} {data : List UInt8} {ks : List Kid} {ao : Option Addr} {c : Nat} (hg : ∀ k ∈ ks, k.good) (hb : ks.length ≤ 1000000) (h : decide ((255 : Int) < (hgtB u ks : Int)) = false) (h6 : decide ((6 : Int) < (ks.length : Int)) = true) {l : List HProp} {w : World} (hE : Ent l w) (hk : Knows l (reads (.slice ao ks.length c) ks.length (kidCells ks))) :
    Calls Try.prog 66 #[.agg #[.int .u8 u.toNat, .string ⟨data.toArray⟩, .slice ao ks.length c]] w (Ret fun v w' => v = .bool false ∧ Ent l w') := by
  have Hg := SL.hid hg
  clear hg
  go_enter Try.func66, Try.ntmps66
  go_wp2_with (first
    | go_skip
    | ((with_reducible (show Go.wpList _ _ _ (Go.Oper.mk _ (.box _ _) _ _ _ _ :: _) _ _)); refine wpl_box hE rfl rfl rfl ?_; clear hE; intro b1 w hE; simp only [Act.eval, Act.put, List.setIfInBounds_toArray, List.set_cons_zero, List.set_cons_succ, getD_lit, List.getD_cons_succ, List.getD_cons_zero, Value.cells] at hE)
    | ((with_reducible (show Go.wpList _ _ _ (Go.Oper.mk _ (.load _ (.tmp 1)) _ _ _ _ :: _) _ _)); refine wpl_loadW hE 0 rfl rfl rfl rfl Try.isAgg39 Try.sizeOf39 (xs := [.int .u8 u.toNat, .string ⟨data.toArray⟩, .slice ao ks.length c]) rfl ?_)
    | (go_at_call 24; have H := Height_any (u := u) (data := data) Hg.out hb hE hk.cons; refine H.mono ?_; clear H hE; rintro e w2 ⟨v, rfl, rfl, hE⟩)
    | ((with_reducible (show Go.wpList _ _ _ (Go.Oper.mk _ (.load _ _) _ _ _ _ :: _) _ _)); first | (refine wpl_load1 hE 0 rfl rfl rfl rfl (by simp [go_sem]) rfl ?_) | (refine wpl_load1 hE 1 rfl rfl rfl rfl (by simp [go_sem]) rfl ?_) | (refine wpl_load1 hE 2 rfl rfl rfl rfl (by simp [go_sem]) rfl ?_) | (refine wpl_load1 hE 3 rfl rfl rfl rfl (by simp [go_sem]) rfl ?_) | (refine wpl_load1 hE 4 rfl rfl rfl rfl (by simp [go_sem]) rfl ?_) | (refine wpl_load1 hE 5 rfl rfl rfl rfl (by simp [go_sem]) rfl ?_)))
  go_ret
  exact ⟨_, rfl, rfl, hE.tail⟩

set_option maxRecDepth 100000 in
theorem may_1 {data : List UInt8} {ks : List Kid} {ao : Option Addr} {c : Nat} (hg : ∀ k ∈ ks, k.good) (hb : ks.length ≤ 1000000) (h : decide ((255 : Int) < (hgtB 1 ks : Int)) = false) (h6 : decide ((6 : Int) < (ks.length : Int)) = false) {x : Bool} (h0 : ((ks.length : Int) == 0) = x) {l : List HProp} {w : World} (hE : Ent l w) (hk : Knows l (reads (.slice ao ks.length c) ks.length (kidCells ks))) :
    Calls Try.prog 66 #[.agg #[.int .u8 1, .string ⟨data.toArray⟩, .slice ao ks.length c]] w (Ret fun v w' => v = .bool (x && decide ((data.length : Int) ≤ 240)) ∧ Ent l w') := by
  have Hg := SL.hid hg
  clear hg
  cases x
  all_goals
    go_enter Try.func66, Try.ntmps66
    go_wp2_with (first
      | go_skip
      | ((with_reducible (show Go.wpList _ _ _ (Go.Oper.mk _ (.box _ _) _ _ _ _ :: _) _ _)); refine wpl_box hE rfl rfl rfl ?_; clear hE; intro b1 w hE; simp only [Act.eval, Act.put, List.setIfInBounds_toArray, List.set_cons_zero, List.set_cons_succ, getD_lit, List.getD_cons_succ, List.getD_cons_zero, Value.cells] at hE)
      | ((with_reducible (show Go.wpList _ _ _ (Go.Oper.mk _ (.load _ (.tmp 1)) _ _ _ _ :: _) _ _)); refine wpl_loadW hE 0 rfl rfl rfl rfl Try.isAgg39 Try.sizeOf39 (xs := [.int .u8 1, .string ⟨data.toArray⟩, .slice ao ks.length c]) rfl ?_)
      | (go_at_call 24; have H := Height_any (u := 1) (data := data) Hg.out hb hE hk.cons; refine H.mono ?_; clear H hE; rintro e w2 ⟨v, rfl, rfl, hE⟩)
      | ((with_reducible (show Go.wpList _ _ _ (Go.Oper.mk _ (.load _ _) _ _ _ _ :: _) _ _)); first | (refine wpl_load1 hE 0 rfl rfl rfl rfl (by simp [go_sem]) rfl ?_) | (refine wpl_load1 hE 1 rfl rfl rfl rfl (by simp [go_sem]) rfl ?_) | (refine wpl_load1 hE 2 rfl rfl rfl rfl (by simp [go_sem]) rfl ?_) | (refine wpl_load1 hE 3 rfl rfl rfl rfl (by simp [go_sem]) rfl ?_) | (refine wpl_load1 hE 4 rfl rfl rfl rfl (by simp [go_sem]) rfl ?_) | (refine wpl_load1 hE 5 rfl rfl rfl rfl (by simp [go_sem]) rfl ?_)))
    go_ret
    exact ⟨_, rfl, rfl, hE.tail⟩

set_option maxRecDepth 100000 in
theorem may_not {u : UInt8} {data : List UInt8} {ks : List Kid} {ao : Option Addr} {c : Nat} (hg : ∀ k ∈ ks, k.good) (hb : ks.length ≤ 1000000) (h : decide ((255 : Int) < (hgtB u ks : Int)) = false) (h6 : decide ((6 : Int) < (ks.length : Int)) = false)
    (h1 : ((u.toNat : Int) == 1) = false) (h2 : ((u.toNat : Int) == 2) = false) (h3 : ((u.toNat : Int) == 3) = false) {l : List HProp} {w : World} (hE : Ent l w) (hk : Knows l (reads (.slice ao ks.length c) ks.length (kidCells ks))) :
    Calls Try.prog 66 #[.agg #[.int .u8 u.toNat, .string ⟨data.toArray⟩, .slice ao ks.length c]] w (Ret fun v w' => v = .bool false ∧ Ent l w') := by
  have Hg := SL.hid hg
  clear hg
  go_enter Try.func66, Try.ntmps66
  go_wp2_with (first
    | go_skip
    | ((with_reducible (show Go.wpList _ _ _ (Go.Oper.mk _ (.box _ _) _ _ _ _ :: _) _ _)); refine wpl_box hE rfl rfl rfl ?_; clear hE; intro b1 w hE; simp only [Act.eval, Act.put, List.setIfInBounds_toArray, List.set_cons_zero, List.set_cons_succ, getD_lit, List.getD_cons_succ, List.getD_cons_zero, Value.cells] at hE)
    | ((with_reducible (show Go.wpList _ _ _ (Go.Oper.mk _ (.load _ (.tmp 1)) _ _ _ _ :: _) _ _)); refine wpl_loadW hE 0 rfl rfl rfl rfl Try.isAgg39 Try.sizeOf39 (xs := [.int .u8 u.toNat, .string ⟨data.toArray⟩, .slice ao ks.length c]) rfl ?_)
    | (go_at_call 24; have H := Height_any (u := u) (data := data) Hg.out hb hE hk.cons; refine H.mono ?_; clear H hE; rintro e w2 ⟨v, rfl, rfl, hE⟩)
    | ((with_reducible (show Go.wpList _ _ _ (Go.Oper.mk _ (.load _ _) _ _ _ _ :: _) _ _)); first | (refine wpl_load1 hE 0 rfl rfl rfl rfl (by simp [go_sem]) rfl ?_) | (refine wpl_load1 hE 1 rfl rfl rfl rfl (by simp [go_sem]) rfl ?_) | (refine wpl_load1 hE 2 rfl rfl rfl rfl (by simp [go_sem]) rfl ?_) | (refine wpl_load1 hE 3 rfl rfl rfl rfl (by simp [go_sem]) rfl ?_) | (refine wpl_load1 hE 4 rfl rfl rfl rfl (by simp [go_sem]) rfl ?_) | (refine wpl_load1 hE 5 rfl rfl rfl rfl (by simp [go_sem]) rfl ?_)))
  go_ret
  exact ⟨_, rfl, rfl, hE.tail⟩

def M2Rel (ks : List Kid) (l : List HProp) (i : Value) (wr : World) : Prop := ∃ k : Nat, k ≤ ks.length ∧ i = .int .i64 k ∧ (ks.take k).all plainK = true ∧ Ent l wr

def lenB (ks : List Kid) : Bool := decide ((0 : Int) < (ks.length : Int))
set_option maxRecDepth 100000 in
theorem may_2 {data : List UInt8} {ks : List Kid} {ao : Option Addr} {c : Nat} (hg : ∀ k ∈ ks, k.good) (hb : ks.length ≤ 1000000) (h : decide ((255 : Int) < (hgtB 2 ks : Int)) = false) (h6 : decide ((6 : Int) < (ks.length : Int)) = false) {l : List HProp} {w : World} (hE : Ent l w) (hk : Knows l (reads (.slice ao ks.length c) ks.length (kidCells ks))) :
    Calls Try.prog 66 #[.agg #[.int .u8 2, .string ⟨data.toArray⟩, .slice ao ks.length c]] w (Ret fun v w' => v = .bool (ks.all plainK && (decide (0 < ks.length) && (data.isEmpty && decide ((sum1 ks : Int) < 4294967296)))) ∧ Ent l w') := by
  have Hg := SL.hid hg
  clear hg
  go_enter Try.func66, Try.ntmps66
  go_wp2_with (first
    | go_skip
    | ((with_reducible (show Go.wpList _ _ _ (Go.Oper.mk _ (.box _ _) _ _ _ _ :: _) _ _)); refine wpl_box hE rfl rfl rfl ?_; clear hE; intro b1 w hE; simp only [Act.eval, Act.put, List.setIfInBounds_toArray, List.set_cons_zero, List.set_cons_succ, getD_lit, List.getD_cons_succ, List.getD_cons_zero, Value.cells] at hE)
    | ((with_reducible (show Go.wpList _ _ _ (Go.Oper.mk _ (.load _ (.tmp 1)) _ _ _ _ :: _) _ _)); refine wpl_loadW hE 0 rfl rfl rfl rfl Try.isAgg39 Try.sizeOf39 (xs := [.int .u8 2, .string ⟨data.toArray⟩, .slice ao ks.length c]) rfl ?_)
    | (go_at_call 24; have H := Height_any (u := 2) (data := data) Hg.out hb hE hk.cons; refine H.mono ?_; clear H hE; rintro e w2 ⟨v, rfl, rfl, hE⟩)
    | ((with_reducible (show Go.wpList _ _ _ (Go.Oper.mk _ (.load _ _) _ _ _ _ :: _) _ _)); first | (refine wpl_load1 hE 0 rfl rfl rfl rfl (by simp [go_sem]) rfl ?_) | (refine wpl_load1 hE 1 rfl rfl rfl rfl (by simp [go_sem]) rfl ?_) | (refine wpl_load1 hE 2 rfl rfl rfl rfl (by simp [go_sem]) rfl ?_) | (refine wpl_load1 hE 3 rfl rfl rfl rfl (by simp [go_sem]) rfl ?_) | (refine wpl_load1 hE 4 rfl rfl rfl rfl (by simp [go_sem]) rfl ?_) | (refine wpl_load1 hE 5 rfl rfl rfl rfl (by simp [go_sem]) rfl ?_)))
  go_loopw [35] (fun i wr => M2Rel ks (pt b1 (.cells #[.int .u8 2, .string ⟨data.toArray⟩, .slice ao ks.length c] 39) :: l) i wr) (fun i _ => ks.length - (intOf i).toNat)
  case atStart => exact ⟨0, Nat.zero_le _, rfl, rfl, hE⟩
  case round =>
    clear hE
    obtain ⟨k, hkl, rfl, hall, hE⟩ := hrel
    have Hall := SL.hid hall
    clear hall
    by_cases hlt : k < ks.length
    · obtain ⟨b, off, rfl, _⟩ := reads_form (hk _ hE.tail) (by omega) (by rw [kidCells_len Hg.out]; omega)
      have hcx := kid_cells Hg.out (hk _ hE.tail) hlt
      have Hs := SL.hid (show (ks.take (k + 1)).all plainK = ((ks.take k).all plainK && plainK ks[k]) by rw [List.take_succ_eq_append_getElem hlt, List.all_append]; simp)
      have Hx := SL.hid (Hg.out _ (List.getElem_mem hlt))
      have Hm := SL.hid (List.getElem_mem hlt)
      generalize ks[k] = x at *
      have Hcx := SL.hid hcx
      clear hcx
      have H36 := SL.hid (kcells_len Hx.out)
      have Hone := SL.hid (kcells_one x)
      cases hp : plainK x with
      | true =>
        have Hp := SL.hid hp
        clear hp
        go_wp2_with (first
          | go_skip
          | ((with_reducible (show Go.wpList _ _ _ (Go.Oper.mk _ (.load _ (.tmp 37)) _ _ _ _ :: _) _ _)); refine wpl_loadC rfl rfl rfl Try.isAgg59 Try.sizeOf59 (kcells x) H36.out Hcx.out ?_)
          | ((with_reducible (show Go.wpList _ _ _ (Go.Oper.mk _ (.alloc _) _ _ _ _ :: _) _ _)); refine wpl_allocN hE rfl rfl (n := 36) (by kernel_rfl) ?_; clear hE; intro b6 cs w1 hq hE6)
          | ((with_reducible (show Go.wpList _ _ _ (Go.Oper.mk _ (.store _ _ _) _ _ _ _ :: _) _ _)); refine wpl_storeN hE6 0 rfl rfl rfl rfl rfl Try.sizeOf59 H36.out Hone.out hq ?_; clear hE6; intro w1 hE7; simp only [List.set_cons_zero] at hE7)
          | ((with_reducible (show Go.wpList _ _ _ (Go.Oper.mk _ (.load _ (.tmp 4)) _ _ _ _ :: _) _ _)); refine wpl_loadW hE7 0 rfl rfl rfl rfl Try.isAgg59 Try.sizeOf59 H36.out ?_)
          | (go_at_call 101; have H := plain_any Hx.out hE7; rw [Hp.out] at H; refine H.mono ?_; clear H hE7; rintro e w2 ⟨v, rfl, rfl, hE8⟩))
        go_roundw
        case rel => exact ⟨k + 1, hlt, by simp, by rw [Hs.out, Hall.out, Hp.out]; rfl, hE8.tail⟩
        case measure => simp [intOf]; omega
      | false =>
        have Hp := SL.hid hp
        have hno : ks.all plainK = false := by
          rw [List.all_eq_false]
          exact ⟨x, Hm.out, by rw [hp]; simp⟩
        have Hno := SL.hid hno
        clear hp hno
        go_wp2_with (first
          | go_skip
          | ((with_reducible (show Go.wpList _ _ _ (Go.Oper.mk _ (.load _ (.tmp 37)) _ _ _ _ :: _) _ _)); refine wpl_loadC rfl rfl rfl Try.isAgg59 Try.sizeOf59 (kcells x) H36.out Hcx.out ?_)
          | ((with_reducible (show Go.wpList _ _ _ (Go.Oper.mk _ (.alloc _) _ _ _ _ :: _) _ _)); refine wpl_allocN hE rfl rfl (n := 36) (by kernel_rfl) ?_; clear hE; intro b6 cs w1 hq hE6)
          | ((with_reducible (show Go.wpList _ _ _ (Go.Oper.mk _ (.store _ _ _) _ _ _ _ :: _) _ _)); refine wpl_storeN hE6 0 rfl rfl rfl rfl rfl Try.sizeOf59 H36.out Hone.out hq ?_; clear hE6; intro w1 hE7; simp only [List.set_cons_zero] at hE7)
          | ((with_reducible (show Go.wpList _ _ _ (Go.Oper.mk _ (.load _ (.tmp 4)) _ _ _ _ :: _) _ _)); refine wpl_loadW hE7 0 rfl rfl rfl rfl Try.isAgg59 Try.sizeOf59 H36.out ?_)
          | (go_at_call 101; have H := plain_any Hx.out hE7; rw [Hp.out] at H; refine H.mono ?_; clear H hE7; rintro e w2 ⟨v, rfl, rfl, hE8⟩))
        go_ret
        exact ⟨_, rfl, by rw [Hno.out]; rfl, hE8.tail.tail⟩
    · have E2 : ks.all plainK = true := by
        have := Hall.out
        rwa [show k = ks.length by omega, List.take_length] at this
      have HE2 := SL.hid E2
      clear E2
      cases h0 : decide ((0 : Int) < (ks.length : Int)) with
      | false =>
        have e0 : decide (0 < ks.length) = false := decide_eq_false (by have := of_decide_eq_false h0; omega)
        have e1 : ¬ (0 < ks.length) := of_decide_eq_false e0
        have He0 := SL.hid e0
        go_wp2_with (first | go_skip | ((with_reducible (show Go.wpList _ _ _ (Go.Oper.mk _ (.load _ _) _ _ _ _ :: _) _ _)); first | (refine wpl_load1 hE 0 rfl rfl rfl rfl (by simp [go_sem]) rfl ?_) | (refine wpl_load1 hE 1 rfl rfl rfl rfl (by simp [go_sem]) rfl ?_) | (refine wpl_load1 hE 2 rfl rfl rfl rfl (by simp [go_sem]) rfl ?_) | (refine wpl_load1 hE 3 rfl rfl rfl rfl (by simp [go_sem]) rfl ?_) | (refine wpl_load1 hE 4 rfl rfl rfl rfl (by simp [go_sem]) rfl ?_) | (refine wpl_load1 hE 5 rfl rfl rfl rfl (by simp [go_sem]) rfl ?_)))
        go_ret
        exact ⟨_, rfl, by rw [HE2.out, He0.out]; rfl, hE.tail⟩
      | true =>
        have e0 : decide (0 < ks.length) = true := decide_eq_true (by have := of_decide_eq_true h0; omega)
        have e1 : 0 < ks.length := of_decide_eq_true e0
        have He0 := SL.hid e0
        rcases data with _ | ⟨d, data⟩
        · go_wp2_with (first
            | go_skip
            | ((with_reducible (show Go.wpList _ _ _ (Go.Oper.mk _ (.load _ (.tmp 1)) _ _ _ _ :: _) _ _)); refine wpl_loadW hE 0 rfl rfl rfl rfl Try.isAgg39 Try.sizeOf39 (xs := [.int .u8 2, .string ⟨#[]⟩, .slice ao ks.length c]) rfl ?_)
            | (go_at_call 54; have H := Size_2 (data := []) Hg.out hb hE hk.cons; refine H.mono ?_; clear H hE; rintro e w2 ⟨v, rfl, rfl, hE⟩)
            | ((with_reducible (show Go.wpList _ _ _ (Go.Oper.mk _ (.load _ _) _ _ _ _ :: _) _ _)); first | (refine wpl_load1 hE 0 rfl rfl rfl rfl (by simp [go_sem]) rfl ?_) | (refine wpl_load1 hE 1 rfl rfl rfl rfl (by simp [go_sem]) rfl ?_) | (refine wpl_load1 hE 2 rfl rfl rfl rfl (by simp [go_sem]) rfl ?_) | (refine wpl_load1 hE 3 rfl rfl rfl rfl (by simp [go_sem]) rfl ?_) | (refine wpl_load1 hE 4 rfl rfl rfl rfl (by simp [go_sem]) rfl ?_) | (refine wpl_load1 hE 5 rfl rfl rfl rfl (by simp [go_sem]) rfl ?_)))
          go_ret
          exact ⟨_, rfl, by rw [HE2.out, He0.out]; simp, hE.tail⟩
        · go_wp2_with (first
            | go_skip
            | ((with_reducible (show Go.wpList _ _ _ (Go.Oper.mk _ (.load _ _) _ _ _ _ :: _) _ _)); first | (refine wpl_load1 hE 0 rfl rfl rfl rfl (by simp [go_sem]) rfl ?_) | (refine wpl_load1 hE 1 rfl rfl rfl rfl (by simp [go_sem]) rfl ?_) | (refine wpl_load1 hE 2 rfl rfl rfl rfl (by simp [go_sem]) rfl ?_) | (refine wpl_load1 hE 3 rfl rfl rfl rfl (by simp [go_sem]) rfl ?_) | (refine wpl_load1 hE 4 rfl rfl rfl rfl (by simp [go_sem]) rfl ?_) | (refine wpl_load1 hE 5 rfl rfl rfl rfl (by simp [go_sem]) rfl ?_)))
          go_ret
          exact ⟨_, rfl, by rw [HE2.out, He0.out]; rfl, hE.tail⟩
end Go.Proofs.Ytohdljcpaogokaa
