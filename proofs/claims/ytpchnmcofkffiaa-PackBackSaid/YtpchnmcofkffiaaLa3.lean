/-
  The things of the packer's laws as values: what the test for too many things and the test for too great texts answers at any things.
-/
import Derived.Test.YtpchnmcofkffiaaLa2
import Derived.Test.YtpchnmcofkffiaaFr
namespace Go.Proofs.Ytpchnmcofkffiaa
open Go.RowKit Go.SL

structure Thing where
  what : UInt8
  width : Int
  num : Nat
  text : List UInt8

def Thing.cells (x : Thing) : List Value := [.int .u8 x.what.toNat, .int .i64 x.width, .int .u64 x.num, .string ⟨x.text.toArray⟩]
def Thing.good (x : Thing) : Prop := x.num < 18446744073709551616 ∧ -9223372036854775808 ≤ x.width ∧ x.width ≤ 9223372036854775807
theorem Thing.cells_len (x : Thing) : x.cells.length = 4 := rfl

def thingCells (xs : List Thing) : List Value := xs.flatMap Thing.cells

set_option maxRecDepth 100000 in
theorem open_things {H : Type} {enc : TypeId × Value → H} {w : World} {held : Bool} {r : Reach} {b0 : Nat} {v : Value} {d : DataW H} {ps : List MemPlace}
    (hval : Value.okWide Try.prog w r b0 22 v) (h : DataW.Trod enc Try.prog w 0 (fun _ => true) held 22 v d ps) :
    ∃ (ao : Option Addr) (c : Nat) (xs : List Thing), v = .slice ao xs.length c ∧ xs.length ≤ c ∧ c ≤ maxLen ∧ (∀ x ∈ xs, x.good) ∧ reads v xs.length (thingCells xs) w :=
  open_row Try.underlying22 Thing.cells Thing.good Thing.cells_len (by omega) (by kernel_rfl) hval h (fun m cs y hl hy => by
    obtain ⟨ys, n, _, _, _, hyl, hg⟩ := DataW.trod_struct Try.underlying27 hy
    match cs, hl with
    | [c0, c1, c2, c3], _ =>
      have g0 := hg 0 _ rfl
      have g1 := hg 1 _ rfl
      have g2 := hg 2 _ rfl
      have g3 := hg 3 _ rfl
      match ys, hyl with
      | [y0, y1, y2, y3], _ =>
        obtain ⟨n0, e0, _, w0⟩ := DataW.trod_int Try.underlying5 (show DataW.trod enc Try.prog w 0 (fun _ => true) held n 5 [c0] = some y0 from g0)
        obtain ⟨n1, e1, _, w1⟩ := DataW.trod_int Try.underlying3 (show DataW.trod enc Try.prog w 0 (fun _ => true) held n 3 [c1] = some y1 from g1)
        obtain ⟨n2, e2, _, w2⟩ := DataW.trod_int Try.underlying25 (show DataW.trod enc Try.prog w 0 (fun _ => true) held n 25 [c2] = some y2 from g2)
        obtain ⟨s, e3, _, _⟩ := DataW.trod_string Try.underlying9 (show DataW.trod enc Try.prog w 0 (fun _ => true) held n 9 [c3] = some y3 from g3)
        simp only [List.cons.injEq, and_true] at e0 e1 e2 e3
        subst e0 e1 e2 e3
        have b0 : 0 ≤ n0 ∧ n0 ≤ 255 := by simpa [Lit.wf, IntKind.min, IntKind.max, IntKind.signed, IntKind.bits] using w0
        have b1 : -9223372036854775808 ≤ n1 ∧ n1 ≤ 9223372036854775807 := by simpa [Lit.wf, IntKind.min, IntKind.max, IntKind.signed, IntKind.bits] using w1
        have b2 : 0 ≤ n2 ∧ n2 ≤ 18446744073709551615 := by simpa [Lit.wf, IntKind.min, IntKind.max, IntKind.signed, IntKind.bits] using w2
        refine ⟨⟨UInt8.ofNat n0.toNat, n1, n2.toNat, s.data.toList⟩, ⟨by show n2.toNat < _; omega, b1⟩, ?_⟩
        simp only [Thing.cells, UInt8.toNat_ofNat', show n0.toNat % 2 ^ 8 = n0.toNat by omega, Int.toNat_of_nonneg b0.1, Int.toNat_of_nonneg b2.1, Array.toArray_toList])

def greatV (xs : List Thing) : Bool := decide (60 < xs.length) || xs.any fun x => decide (400 < x.text.length)

theorem thing_at {xs : List Thing} {k : Nat} (hk : k < xs.length) (j : Nat) (u : Value) (h : (xs[k]).cells[j]? = some u) : (thingCells xs)[k * 4 + j]? = some u :=
  flatMap_at Thing.cells 4 Thing.cells_len xs k j _ u (List.getElem?_eq_getElem hk) h

def GreatRel (xs : List Thing) (i : Value) : Prop := ∃ k : Nat, k ≤ xs.length ∧ i = .int .i64 k ∧ (xs.take k).any (fun x => decide (400 < x.text.length)) = false

set_option maxRecDepth 100000 in
theorem great1_any {l : List HProp} {w : World} {xs : List Thing} {ao : Option Addr} {c : Nat} (hr : reads (.slice ao xs.length c) xs.length (thingCells xs) w) :
    Calls Try.prog 11 #[.slice ao xs.length c] w (fun e w' => e = .returned (.bool (greatV xs)) ∧ w = w') := by
  cases h60 : decide ((60 : Int) < (xs.length : Int)) with
  | true =>
    have e : greatV xs = true := by simp [greatV] at h60 ⊢; omega
    rw [e]
    go_enter Try.func11, Try.ntmps11
    go_wp2
    go_ret
    exact ⟨rfl, rfl⟩
  | false =>
    have e : greatV xs = xs.any fun x => decide (400 < x.text.length) := by simp [greatV] at h60 ⊢; omega
    have h60' : xs.length ≤ 60 := by have := of_decide_eq_false h60; omega
    rw [e]
    rcases Nat.eq_zero_or_pos xs.length with h0 | h0
    · obtain rfl := List.eq_nil_of_length_eq_zero h0
      clear hr h0
      go_enter Try.func11, Try.ntmps11
      go_wp2
      go_loop [3] (fun i => i = .int .i64 0) (fun _ => 0)
      case atStart => exact rfl
      case round =>
        obtain rfl := hrel
        go_wp2
        go_ret
        exact ⟨rfl, rfl⟩
    · obtain ⟨b, off, rfl, hc⟩ := reads_form hr h0 (by rw [thingCells, flatMap_len _ 4 Thing.cells_len]; omega)
      clear hr
      go_enter Try.func11, Try.ntmps11
      go_wp2
      go_loop [3] (fun i => GreatRel xs i) (fun i => xs.length - (intOf i).toNat)
      case atStart => exact ⟨0, Nat.zero_le _, rfl, rfl⟩
      case round =>
        obtain ⟨k, hk, rfl, hall⟩ := hrel
        have Hall := SL.hid hall
        clear hall
        by_cases hlt : k < xs.length
        · have hck : w.cell? ⟨b, off + k * 4 + 3, none⟩ = some (.string ⟨xs[k].text.toArray⟩) := by rw [Nat.add_assoc]; exact hc _ _ (thing_at hlt 3 _ rfl)
          clear hc
          cases h4 : decide ((400 : Int) < (xs[k].text.length : Int)) with
          | true =>
            have e1 : (xs.any fun x => decide (400 < x.text.length)) = true := by
              rw [List.any_eq_true]
              exact ⟨xs[k], List.getElem_mem hlt, decide_eq_true (by have := of_decide_eq_true h4; omega)⟩
            have E1 := SL.hid e1
            clear e1
            go_wp2
            go_ret
            exact ⟨by rw [E1.out]; rfl, rfl⟩
          | false =>
            go_wp2
            go_round
            case rel => exact ⟨k + 1, hlt, by simp, by rw [List.take_succ_eq_append_getElem hlt, List.any_append, Hall.out]; have := of_decide_eq_false h4; simp; omega⟩
            case measure => simp [intOf]; omega
        · have E1 := SL.hid (show k = xs.length by omega)
          go_wp2
          go_ret
          have hk := E1.out
          subst hk
          have ha := Hall.out
          rw [List.take_length] at ha
          exact ⟨by rw [ha]; rfl, rfl⟩
end Go.Proofs.Ytpchnmcofkffiaa
