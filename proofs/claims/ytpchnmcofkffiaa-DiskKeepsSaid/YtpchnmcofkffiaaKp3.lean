/-
  The stage's theorem of the disk: whichever its arguments.
-/
import Derived.Test.YtpchnmcofkffiaaKp2
namespace Go.Proofs.Ytpchnmcofkffiaa
open Go.RowKit Go.SL

set_option maxRecDepth 100000 in
set_option maxHeartbeats 2000000 in
theorem Keeps_great {xs : List DAct} (hgr : great4V xs = true) {n : Nat} (hn : n < 256) {l : List HProp} {w : World} (hE : Ent l w) {ao : Option Addr} {c : Nat} (hk : Knows l (reads (.slice ao xs.length c) xs.length (actCells xs))) :
    Calls Try.prog 6 #[.int .u8 n, .slice ao xs.length c] w (Ret fun v w' => v = .bool true ∧ Ent l w') := by
  have Hgr := SL.hid hgr
  have Hk := SL.hid hk
  clear hgr hk
  go_enter Try.func6, Try.ntmps6
  go_wp2_with (first
    | go_skip
    | (go_at_call 30; refine (great4_is Hgr.out (Hk.out _ hE)).mono ?_; rintro e w2 ⟨rfl, rfl⟩)
    | (go_at_call 31; have H := wakes4_any hE; refine H.mono ?_; clear H hE; rintro e w2 ⟨v, rfl, rfl, hE⟩))
  go_ret
  exact ⟨_, rfl, rfl, hE⟩

set_option maxRecDepth 100000 in
set_option maxHeartbeats 2000000 in
theorem Keeps_not {xs : List DAct} (hgr : great4V xs = false) {n : Nat} (hn : n < 256) (hn1 : ¬ (1 ≤ n ∧ n ≤ 30)) {l : List HProp} {w : World} (hE : Ent l w) {ao : Option Addr} {c : Nat} (hk : Knows l (reads (.slice ao xs.length c) xs.length (actCells xs))) :
    Calls Try.prog 6 #[.int .u8 n, .slice ao xs.length c] w (Ret fun v w' => v = .bool true ∧ Ent l w') := by
  have Hgr := SL.hid hgr
  have Hk := SL.hid hk
  have Hn1 := SL.hid hn1
  clear hgr hk hn1
  by_cases h1 : n < 1
  · obtain rfl : n = 0 := by omega
    go_enter Try.func6, Try.ntmps6
    go_wp2_with (first
      | go_skip
      | (go_at_call 30; refine (great4_is Hgr.out (Hk.out _ hE)).mono ?_; rintro e w2 ⟨rfl, rfl⟩)
      | (go_at_call 31; have H := wakes4_any hE; refine H.mono ?_; clear H hE; rintro e w2 ⟨v, rfl, rfl, hE⟩))
    go_ret
    exact ⟨_, rfl, rfl, hE⟩
  · have h2 : 1 ≤ n := by omega
    have h3 : 30 < n := by have := Hn1.out; omega
    clear h1
    go_enter Try.func6, Try.ntmps6
    go_wp2_with (first
      | go_skip
      | (go_at_call 30; refine (great4_is Hgr.out (Hk.out _ hE)).mono ?_; rintro e w2 ⟨rfl, rfl⟩)
      | (go_at_call 31; have H := wakes4_any hE; refine H.mono ?_; clear H hE; rintro e w2 ⟨v, rfl, rfl, hE⟩))
    go_ret
    exact ⟨_, rfl, rfl, hE⟩

theorem DiskKeeps_int {xs : List DAct} (hgood : ∀ x ∈ xs, x.good) {z : Int} (hz : 0 ≤ z ∧ z ≤ 255) {l : List HProp} {w : World} (hE : Ent l w) {ao : Option Addr} {c : Nat} (hk : Knows l (reads (.slice ao xs.length c) xs.length (actCells xs))) :
    Calls Try.prog 6 #[.int .u8 z, .slice ao xs.length c] w (Ret fun v w' => v = .bool true ∧ Ent l w') := by
  obtain ⟨n, rfl⟩ := Int.eq_ofNat_of_zero_le hz.1
  have hn : n < 256 := by omega
  cases hgr : great4V xs with
  | true => exact Keeps_great hgr hn hE hk
  | false =>
    by_cases h1 : 1 ≤ n ∧ n ≤ 30
    · exact Keeps_in hgood hgr h1.1 h1.2 hE hk
    · exact Keeps_not hgr hn h1 hE hk
end Go.Proofs.Ytpchnmcofkffiaa
