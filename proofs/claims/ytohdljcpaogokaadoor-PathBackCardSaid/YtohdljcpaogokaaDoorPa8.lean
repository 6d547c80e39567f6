/-
  Paths joined.
-/
import Derived.Test.YtohdljcpaogokaaDoorPa7
import Derived.Test.YtohdljcpaogokaaDoorSli
namespace Go.Proofs.YtohdljcpaogokaaDoor
open Go.RowKit Go.SL

theorem joinP_len : ∀ xs : List (List UInt8), (∀ x ∈ xs, x.length ≤ 600) → (joinP xs).length ≤ xs.length * 601
  | [], _ => by simp [joinP, Lib.join_nil]
  | [a], h => by
    rw [joinP_one]
    have := h a (by simp)
    simp only [List.length_cons, List.length_nil]
    omega
  | a :: b :: t, h => by
    rw [joinP_cons a (by simp)]
    have h1 := joinP_len (b :: t) (fun x hx => h x (by simp [hx]))
    have h2 := h a (by simp)
    simp only [List.length_append, List.length_cons] at h1 ⊢
    omega
theorem joinP_snoc (x : List UInt8) : ∀ l : List (List UInt8), l ≠ [] → joinP (l ++ [x]) = joinP l ++ 47 :: x
  | [], h => absurd rfl h
  | [a], _ => by
    rw [joinP_one, List.cons_append, joinP_cons a (by simp), List.nil_append, joinP_one]
  | a :: b :: t, _ => by
    have ih := joinP_snoc x (b :: t) (by simp)
    rw [List.cons_append, joinP_cons a (by simp), ih, joinP_cons a (by simp)]
    simp

theorem cell_below {w : World} {b o : Nat} {v : Value} (h : w.cell? ⟨b, o, none⟩ = some v) : b < w.heap.size := by
  by_cases hb : b < w.heap.size
  · exact hb
  · exfalso
    have e : w.heap[b]? = none := Array.getElem?_eq_none (by omega)
    simp [World.cell?, e] at h

set_option maxRecDepth 100000 in
theorem Join_any {xs : List (List UInt8)} (hn : xs.length ≤ 1000) (hx : ∀ x ∈ xs, x.length ≤ 600) {ao : Option Addr} {c : Nat} (hc : xs.length ≤ c) {l : List HProp} {w : World} (hE : Ent l w) (hk : Knows l (reads (.slice ao xs.length c) xs.length (xs.map strv))) :
    Calls Tryd.prog 14 #[.slice ao xs.length c] w (Ret fun v w' => v = .string ⟨(joinP xs).toArray⟩ ∧ Ent l w') := by
  have hj : Calls Tryd.prog 30 #[.slice ao xs.length c, .string ⟨#[47]⟩] w (Ret fun v w' => v = .string ⟨(joinP xs).toArray⟩ ∧ Ent l w') := by
    cases xs with
    | nil =>
      refine (join_none ao c _ w).mono ?_
      rintro e w' ⟨rfl, rfl⟩
      exact ⟨_, rfl, rfl, hE⟩
    | cons x t =>
      obtain ⟨b, o, rfl, _⟩ := reads_form (hk _ hE) (by simp) (by simp)
      have hcell := fun i (hi : i < (x :: t).length) => str_cells (hk _ hE) hi
      have e1 : ((x :: t).map fun s => (⟨s.toArray⟩ : ByteArray)).map (·.data.toList) = x :: t := by
        rw [List.map_map]
        conv => rhs; rw [← List.map_id (x :: t)]
        congr 1
      have e2 : ((x :: t).map fun s => (⟨s.toArray⟩ : ByteArray)).length = (x :: t).length := List.length_map _
      have hl := joinP_len (x :: t) hx
      have hN := Nat.mul_le_mul_right 601 hn
      have h := join_many b o c ((x :: t).map fun s => (⟨s.toArray⟩ : ByteArray)) ⟨#[47]⟩ w
        (fun j y hy => by
          rw [List.getElem?_map] at hy
          by_cases hj : j < (x :: t).length
          · rw [List.getElem?_eq_getElem hj] at hy
            cases hy
            exact hcell j hj
          · rw [List.getElem?_eq_none (by omega)] at hy; cases hy)
        (cell_below (hcell 0 (by simp))) (by rw [e2]; omega) (by rw [e2]; exact hc) (by rw [e1]; show (joinP (x :: t)).length ≤ _; omega)
      rw [e1, e2] at h
      refine h.mono ?_
      rintro e w' ⟨rfl, hb⟩
      exact ⟨_, rfl, rfl, hE.ofBelow hb⟩
  go_enter Tryd.func14, Tryd.ntmps14
  go_wp2_with (first
    | go_skip
    | (go_at_call 30; refine hj.mono ?_; clear hE; rintro e w2 ⟨v, rfl, rfl, hE⟩))
  go_ret
  exact ⟨_, rfl, rfl, hE⟩

def RjRel (xs : List (List UInt8)) (l : List HProp) (s i : Value) (wr : World) : Prop := ∃ k : Nat, k ≤ xs.length ∧ i = .int .i64 k ∧ s = .string ⟨(joinP (xs.take k)).toArray⟩ ∧ Ent l wr
theorem catB (a b : List UInt8) (h : a.length + b.length ≤ 1099511627776) : ∃ p : List UInt8, p = a ++ b ∧ (⟨a.toArray⟩ : ByteArray) ++ ⟨b.toArray⟩ = ⟨p.toArray⟩ ∧ ¬ (9223372036854775807 < a.length + b.length) :=
  ⟨a ++ b, rfl, bytes_join a b, by omega⟩
set_option maxRecDepth 100000 in
set_option maxHeartbeats 2000000 in
theorem rJoin_any {xs : List (List UInt8)} (hn : xs.length ≤ 1000) (hx : ∀ x ∈ xs, x.length ≤ 600) {ao : Option Addr} {c : Nat} {l : List HProp} {w : World} (hE : Ent l w) (hk : Knows l (reads (.slice ao xs.length c) xs.length (xs.map strv))) :
    Calls Tryd.prog 15 #[.slice ao xs.length c] w (Ret fun v w' => v = .string ⟨(joinP xs).toArray⟩ ∧ Ent l w') := by
  go_enter Tryd.func15, Tryd.ntmps15
  go_wp2
  go_loopw [3, 4] (fun s i wr => RjRel xs l s i wr) (fun _ i _ => xs.length - (intOf i).toNat)
  case atStart => exact ⟨0, Nat.zero_le _, rfl, rfl, hE⟩
  case round =>
    clear hE
    obtain ⟨k, hkl, rfl, rfl, hE⟩ := hrel
    by_cases hlt : k < xs.length
    · obtain ⟨b1, o1, rfl, hcl⟩ := reads_form (hk _ hE) (by omega) (by simp; omega)
      clear hcl
      have k0 := str_cells (hk _ hE) hlt
      have hb1 := joinP_len (xs.take k) (fun x hx' => hx x (List.mem_of_mem_take hx'))
      have hb2 : (xs.take k).length * 601 ≤ 1000 * 601 := Nat.mul_le_mul_right _ (by rw [List.length_take]; omega)
      have hb3 := hx _ (List.getElem_mem hlt)
      have ht := List.take_succ_eq_append_getElem hlt
      generalize xs[k] = x at *
      rcases Nat.eq_zero_or_pos k with rfl | hpos
      · have Hs := SL.hid (show joinP (xs.take (0 + 1)) = x by rw [ht]; simp [joinP_one])
        clear ht hb1 hb2
        rw [Nat.add_zero] at k0
        obtain ⟨p, hp, hj, hc⟩ := catB (joinP (xs.take 0)) x (by simp [joinP, Lib.join_nil]; omega)
        have Hp := SL.hid (show p = x by rw [hp]; simp [joinP, Lib.join_nil])
        clear hp
        generalize joinP (xs.take 0) = pre at *
        go_wp2
        go_roundw
        case rel => exact ⟨0 + 1, hlt, by first | rfl | simp, by rw [Hs.out, Hp.out], hE⟩
        case measure => simp [intOf] <;> omega
      · have Hs := SL.hid (show joinP (xs.take (k + 1)) = joinP (xs.take k) ++ 47 :: x by rw [ht]; exact joinP_snoc x _ (by intro e; have := congrArg List.length e; rw [List.length_take, List.length_nil] at this; omega))
        clear ht
        have hd : decide (0 < k) = true := decide_eq_true hpos
        generalize joinP (xs.take k) = pre at *
        obtain ⟨p1, hp1, hj1, hc1⟩ := catB pre [47] (by simp; omega)
        obtain ⟨p2, hp2, hj2, hc2⟩ := catB p1 x (by rw [hp1]; simp; omega)
        have Hp := SL.hid (show p2 = pre ++ 47 :: x by rw [hp2, hp1]; simp)
        clear hp1 hp2 hpos
        go_wp2
        go_roundw
        case rel => exact ⟨k + 1, hlt, by first | rfl | simp, by rw [Hs.out, Hp.out], hE⟩
        case measure => simp [intOf] <;> omega
    · have E2 : xs.take k = xs := by rw [show k = xs.length by omega, List.take_length]
      rw [E2]
      clear E2
      go_wp2
      go_ret
      exact ⟨_, rfl, rfl, hE⟩
end Go.Proofs.YtohdljcpaogokaaDoor
