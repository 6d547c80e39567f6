/-
  The law of the disk behind any acts: whichever its arguments.
-/
import Derived.Test.YtpchnmcofkffiaaDw6
namespace Go.Proofs.Ytpchnmcofkffiaa
open Go.RowKit Go.SL

set_option maxRecDepth 100000 in
set_option maxHeartbeats 2000000 in
theorem Plays_not {xs : List DAct} (hgr : great4V xs = false) {n : Int} (hn1 : ¬ (1 ≤ n ∧ n ≤ 4096)) {l : List HProp} {w : World} (hE : Ent l w) {ao : Option Addr} {c : Nat} (hk : Knows l (reads (.slice ao xs.length c) xs.length (actCells xs))) :
    Calls Try.prog 7 #[.int .i64 n, .slice ao xs.length c] w (Ret fun v w' => v = .bool true ∧ Ent l w') := by
  have Hgr := SL.hid hgr
  have Hk := SL.hid hk
  have Hn := SL.hid hn1
  clear hgr hk
  by_cases h1 : n < 1
  · go_enter Try.func7, Try.ntmps7
    go_wp2_with (first
      | go_skip
      | (go_at_call 30; refine (great4_is Hgr.out (Hk.out _ hE)).mono ?_; rintro e w2 ⟨rfl, rfl⟩)
      | (go_at_call 32; have H := New_not Hn.out hE; refine H.mono ?_; clear H hE; rintro e w2 ⟨v, rfl, rfl, hE⟩)
      | (go_at_call 31; have H := wakes4_any hE; refine H.mono ?_; clear H hE; rintro e w2 ⟨v, rfl, rfl, hE⟩))
    go_ret
    exact ⟨_, rfl, rfl, hE⟩
  · have h2 : n > 4096 := by omega
    have h3 : n > 30 := by omega
    go_enter Try.func7, Try.ntmps7
    go_wp2_with (first
      | go_skip
      | (go_at_call 30; refine (great4_is Hgr.out (Hk.out _ hE)).mono ?_; rintro e w2 ⟨rfl, rfl⟩)
      | (go_at_call 32; have H := New_not Hn.out hE; refine H.mono ?_; clear H hE; rintro e w2 ⟨v, rfl, rfl, hE⟩)
      | (go_at_call 31; have H := wakes4_any hE; refine H.mono ?_; clear H hE; rintro e w2 ⟨v, rfl, rfl, hE⟩))
    go_ret
    exact ⟨_, rfl, rfl, hE⟩

set_option maxRecDepth 100000 in
set_option maxHeartbeats 2000000 in
theorem Plays_great {xs : List DAct} (hgr : great4V xs = true) {n : Int} {l : List HProp} {w : World} (hE : Ent l w) {ao : Option Addr} {c : Nat} (hk : Knows l (reads (.slice ao xs.length c) xs.length (actCells xs))) :
    Calls Try.prog 7 #[.int .i64 n, .slice ao xs.length c] w (Ret fun v w' => v = .bool true ∧ Ent l w') := by
  have Hgr := SL.hid hgr
  have Hk := SL.hid hk
  clear hgr hk
  go_enter Try.func7, Try.ntmps7
  go_wp2_with (first
    | go_skip
    | (go_at_call 30; refine (great4_is Hgr.out (Hk.out _ hE)).mono ?_; rintro e w2 ⟨rfl, rfl⟩)
    | (go_at_call 31; have H := wakes4_any hE; refine H.mono ?_; clear H hE; rintro e w2 ⟨v, rfl, rfl, hE⟩))
  go_ret
  exact ⟨_, rfl, rfl, hE⟩

set_option maxRecDepth 100000 in
set_option maxHeartbeats 2000000 in
theorem Plays_wide {xs : List DAct} (hgr : great4V xs = false) {n : Int} (h1 : 30 < n) (h2 : n ≤ 4096) {l : List HProp} {w : World} (hE : Ent l w) {ao : Option Addr} {c : Nat} (hk : Knows l (reads (.slice ao xs.length c) xs.length (actCells xs))) :
    Calls Try.prog 7 #[.int .i64 n, .slice ao xs.length c] w (Ret fun v w' => v = .bool true ∧ Ent l w') := by
  have Hgr := SL.hid hgr
  have Hk := SL.hid hk
  clear hgr hk
  go_enter Try.func7, Try.ntmps7
  go_wp2_with (first
    | go_skip
    | (go_at_call 30; refine (great4_is Hgr.out (Hk.out _ hE)).mono ?_; rintro e w2 ⟨rfl, rfl⟩)
    | (go_at_call 31; have H := wakes4_any hE; refine H.mono ?_; clear H hE; rintro e w2 ⟨v, rfl, rfl, hE⟩))
  go_ret
  exact ⟨_, rfl, rfl, hE⟩

theorem DiskPlays_any {xs : List DAct} (hgood : ∀ x ∈ xs, x.good) (n : Int) {l : List HProp} {w : World} (hE : Ent l w) {ao : Option Addr} {c : Nat} (hk : Knows l (reads (.slice ao xs.length c) xs.length (actCells xs))) :
    Calls Try.prog 7 #[.int .i64 n, .slice ao xs.length c] w (Ret fun v w' => v = .bool true ∧ Ent l w') := by
  cases hgr : great4V xs with
  | true => exact Plays_great hgr hE hk
  | false =>
    by_cases h1 : 1 ≤ n ∧ n ≤ 4096
    · by_cases h2 : 30 < n
      · exact Plays_wide hgr h2 h1.2 hE hk
      · obtain ⟨k, rfl⟩ : ∃ k : Nat, n = k := ⟨n.toNat, by omega⟩
        exact Plays_in hgood hgr (by omega) (by omega) hE hk
    · exact Plays_not hgr h1 hE hk
end Go.Proofs.Ytpchnmcofkffiaa
