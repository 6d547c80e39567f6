/-
  Bits, turned to the right, by each of the ten numbers that the hash has.
-/
import Derived.Test.YtpchnmcofkffiaaDoorSh1
import Derived.Test.YtpchnmcofkffiaaDoorFr
import Derived.Test.YtpchnmcofkffiaaDoorChecked
namespace Go.Proofs.YtpchnmcofkffiaaDoor
open Go.RowKit Go.SL

theorem left_2 (x : Nat) (hx : x < 4294967296) (w : World) : Calls Tryd.prog 24 #[.int .u32 (x : Int), .int .i64 (-2)] w (fun e w' => e = .returned (.int .u32 ((rr x 2 : Nat) : Int)) ∧ w = w') := by
  have h1 : bits .and .u64 (IntKind.u64.wrap (-2)) 31 = 30 := by decide
  have h3 : bits .or .u32 ((x : Int) * 1073741824 % 4294967296) ((x : Int) / 4) = ((rr x 2 : Nat) : Int) := by
    have := u32_or_nat (x * 1073741824 % 4294967296) (x / 4) (by omega) (by omega)
    simpa [rr] using this
  go_enter Tryd.func24, Tryd.ntmps24
  go_wp2
  go_ret
  exact ⟨by simp, rfl⟩
theorem right_2 (x : Nat) (hx : x < 4294967296) (w : World) : Calls Tryd.prog 19 #[.int .u32 (x : Int), .int .i64 2] w (fun e w' => e = .returned (.int .u32 ((rr x 2 : Nat) : Int)) ∧ w = w') := by
  go_enter Tryd.func19, Tryd.ntmps19
  go_wp2_with (first
    | go_skip
    | (go_at_call 24; refine (left_2 x hx _).mono ?_; rintro e w2 ⟨rfl, rfl⟩))
  go_ret
  exact ⟨rfl, rfl⟩

theorem left_6 (x : Nat) (hx : x < 4294967296) (w : World) : Calls Tryd.prog 24 #[.int .u32 (x : Int), .int .i64 (-6)] w (fun e w' => e = .returned (.int .u32 ((rr x 6 : Nat) : Int)) ∧ w = w') := by
  have h1 : bits .and .u64 (IntKind.u64.wrap (-6)) 31 = 26 := by decide
  have h3 : bits .or .u32 ((x : Int) * 67108864 % 4294967296) ((x : Int) / 64) = ((rr x 6 : Nat) : Int) := by
    have := u32_or_nat (x * 67108864 % 4294967296) (x / 64) (by omega) (by omega)
    simpa [rr] using this
  go_enter Tryd.func24, Tryd.ntmps24
  go_wp2
  go_ret
  exact ⟨by simp, rfl⟩
theorem right_6 (x : Nat) (hx : x < 4294967296) (w : World) : Calls Tryd.prog 19 #[.int .u32 (x : Int), .int .i64 6] w (fun e w' => e = .returned (.int .u32 ((rr x 6 : Nat) : Int)) ∧ w = w') := by
  go_enter Tryd.func19, Tryd.ntmps19
  go_wp2_with (first
    | go_skip
    | (go_at_call 24; refine (left_6 x hx _).mono ?_; rintro e w2 ⟨rfl, rfl⟩))
  go_ret
  exact ⟨rfl, rfl⟩

theorem left_7 (x : Nat) (hx : x < 4294967296) (w : World) : Calls Tryd.prog 24 #[.int .u32 (x : Int), .int .i64 (-7)] w (fun e w' => e = .returned (.int .u32 ((rr x 7 : Nat) : Int)) ∧ w = w') := by
  have h1 : bits .and .u64 (IntKind.u64.wrap (-7)) 31 = 25 := by decide
  have h3 : bits .or .u32 ((x : Int) * 33554432 % 4294967296) ((x : Int) / 128) = ((rr x 7 : Nat) : Int) := by
    have := u32_or_nat (x * 33554432 % 4294967296) (x / 128) (by omega) (by omega)
    simpa [rr] using this
  go_enter Tryd.func24, Tryd.ntmps24
  go_wp2
  go_ret
  exact ⟨by simp, rfl⟩
theorem right_7 (x : Nat) (hx : x < 4294967296) (w : World) : Calls Tryd.prog 19 #[.int .u32 (x : Int), .int .i64 7] w (fun e w' => e = .returned (.int .u32 ((rr x 7 : Nat) : Int)) ∧ w = w') := by
  go_enter Tryd.func19, Tryd.ntmps19
  go_wp2_with (first
    | go_skip
    | (go_at_call 24; refine (left_7 x hx _).mono ?_; rintro e w2 ⟨rfl, rfl⟩))
  go_ret
  exact ⟨rfl, rfl⟩

theorem left_11 (x : Nat) (hx : x < 4294967296) (w : World) : Calls Tryd.prog 24 #[.int .u32 (x : Int), .int .i64 (-11)] w (fun e w' => e = .returned (.int .u32 ((rr x 11 : Nat) : Int)) ∧ w = w') := by
  have h1 : bits .and .u64 (IntKind.u64.wrap (-11)) 31 = 21 := by decide
  have h3 : bits .or .u32 ((x : Int) * 2097152 % 4294967296) ((x : Int) / 2048) = ((rr x 11 : Nat) : Int) := by
    have := u32_or_nat (x * 2097152 % 4294967296) (x / 2048) (by omega) (by omega)
    simpa [rr] using this
  go_enter Tryd.func24, Tryd.ntmps24
  go_wp2
  go_ret
  exact ⟨by simp, rfl⟩
theorem right_11 (x : Nat) (hx : x < 4294967296) (w : World) : Calls Tryd.prog 19 #[.int .u32 (x : Int), .int .i64 11] w (fun e w' => e = .returned (.int .u32 ((rr x 11 : Nat) : Int)) ∧ w = w') := by
  go_enter Tryd.func19, Tryd.ntmps19
  go_wp2_with (first
    | go_skip
    | (go_at_call 24; refine (left_11 x hx _).mono ?_; rintro e w2 ⟨rfl, rfl⟩))
  go_ret
  exact ⟨rfl, rfl⟩

theorem left_13 (x : Nat) (hx : x < 4294967296) (w : World) : Calls Tryd.prog 24 #[.int .u32 (x : Int), .int .i64 (-13)] w (fun e w' => e = .returned (.int .u32 ((rr x 13 : Nat) : Int)) ∧ w = w') := by
  have h1 : bits .and .u64 (IntKind.u64.wrap (-13)) 31 = 19 := by decide
  have h3 : bits .or .u32 ((x : Int) * 524288 % 4294967296) ((x : Int) / 8192) = ((rr x 13 : Nat) : Int) := by
    have := u32_or_nat (x * 524288 % 4294967296) (x / 8192) (by omega) (by omega)
    simpa [rr] using this
  go_enter Tryd.func24, Tryd.ntmps24
  go_wp2
  go_ret
  exact ⟨by simp, rfl⟩
theorem right_13 (x : Nat) (hx : x < 4294967296) (w : World) : Calls Tryd.prog 19 #[.int .u32 (x : Int), .int .i64 13] w (fun e w' => e = .returned (.int .u32 ((rr x 13 : Nat) : Int)) ∧ w = w') := by
  go_enter Tryd.func19, Tryd.ntmps19
  go_wp2_with (first
    | go_skip
    | (go_at_call 24; refine (left_13 x hx _).mono ?_; rintro e w2 ⟨rfl, rfl⟩))
  go_ret
  exact ⟨rfl, rfl⟩

theorem left_17 (x : Nat) (hx : x < 4294967296) (w : World) : Calls Tryd.prog 24 #[.int .u32 (x : Int), .int .i64 (-17)] w (fun e w' => e = .returned (.int .u32 ((rr x 17 : Nat) : Int)) ∧ w = w') := by
  have h1 : bits .and .u64 (IntKind.u64.wrap (-17)) 31 = 15 := by decide
  have h3 : bits .or .u32 ((x : Int) * 32768 % 4294967296) ((x : Int) / 131072) = ((rr x 17 : Nat) : Int) := by
    have := u32_or_nat (x * 32768 % 4294967296) (x / 131072) (by omega) (by omega)
    simpa [rr] using this
  go_enter Tryd.func24, Tryd.ntmps24
  go_wp2
  go_ret
  exact ⟨by simp, rfl⟩
theorem right_17 (x : Nat) (hx : x < 4294967296) (w : World) : Calls Tryd.prog 19 #[.int .u32 (x : Int), .int .i64 17] w (fun e w' => e = .returned (.int .u32 ((rr x 17 : Nat) : Int)) ∧ w = w') := by
  go_enter Tryd.func19, Tryd.ntmps19
  go_wp2_with (first
    | go_skip
    | (go_at_call 24; refine (left_17 x hx _).mono ?_; rintro e w2 ⟨rfl, rfl⟩))
  go_ret
  exact ⟨rfl, rfl⟩

theorem left_18 (x : Nat) (hx : x < 4294967296) (w : World) : Calls Tryd.prog 24 #[.int .u32 (x : Int), .int .i64 (-18)] w (fun e w' => e = .returned (.int .u32 ((rr x 18 : Nat) : Int)) ∧ w = w') := by
  have h1 : bits .and .u64 (IntKind.u64.wrap (-18)) 31 = 14 := by decide
  have h3 : bits .or .u32 ((x : Int) * 16384 % 4294967296) ((x : Int) / 262144) = ((rr x 18 : Nat) : Int) := by
    have := u32_or_nat (x * 16384 % 4294967296) (x / 262144) (by omega) (by omega)
    simpa [rr] using this
  go_enter Tryd.func24, Tryd.ntmps24
  go_wp2
  go_ret
  exact ⟨by simp, rfl⟩
theorem right_18 (x : Nat) (hx : x < 4294967296) (w : World) : Calls Tryd.prog 19 #[.int .u32 (x : Int), .int .i64 18] w (fun e w' => e = .returned (.int .u32 ((rr x 18 : Nat) : Int)) ∧ w = w') := by
  go_enter Tryd.func19, Tryd.ntmps19
  go_wp2_with (first
    | go_skip
    | (go_at_call 24; refine (left_18 x hx _).mono ?_; rintro e w2 ⟨rfl, rfl⟩))
  go_ret
  exact ⟨rfl, rfl⟩

theorem left_19 (x : Nat) (hx : x < 4294967296) (w : World) : Calls Tryd.prog 24 #[.int .u32 (x : Int), .int .i64 (-19)] w (fun e w' => e = .returned (.int .u32 ((rr x 19 : Nat) : Int)) ∧ w = w') := by
  have h1 : bits .and .u64 (IntKind.u64.wrap (-19)) 31 = 13 := by decide
  have h3 : bits .or .u32 ((x : Int) * 8192 % 4294967296) ((x : Int) / 524288) = ((rr x 19 : Nat) : Int) := by
    have := u32_or_nat (x * 8192 % 4294967296) (x / 524288) (by omega) (by omega)
    simpa [rr] using this
  go_enter Tryd.func24, Tryd.ntmps24
  go_wp2
  go_ret
  exact ⟨by simp, rfl⟩
theorem right_19 (x : Nat) (hx : x < 4294967296) (w : World) : Calls Tryd.prog 19 #[.int .u32 (x : Int), .int .i64 19] w (fun e w' => e = .returned (.int .u32 ((rr x 19 : Nat) : Int)) ∧ w = w') := by
  go_enter Tryd.func19, Tryd.ntmps19
  go_wp2_with (first
    | go_skip
    | (go_at_call 24; refine (left_19 x hx _).mono ?_; rintro e w2 ⟨rfl, rfl⟩))
  go_ret
  exact ⟨rfl, rfl⟩

theorem left_22 (x : Nat) (hx : x < 4294967296) (w : World) : Calls Tryd.prog 24 #[.int .u32 (x : Int), .int .i64 (-22)] w (fun e w' => e = .returned (.int .u32 ((rr x 22 : Nat) : Int)) ∧ w = w') := by
  have h1 : bits .and .u64 (IntKind.u64.wrap (-22)) 31 = 10 := by decide
  have h3 : bits .or .u32 ((x : Int) * 1024 % 4294967296) ((x : Int) / 4194304) = ((rr x 22 : Nat) : Int) := by
    have := u32_or_nat (x * 1024 % 4294967296) (x / 4194304) (by omega) (by omega)
    simpa [rr] using this
  go_enter Tryd.func24, Tryd.ntmps24
  go_wp2
  go_ret
  exact ⟨by simp, rfl⟩
theorem right_22 (x : Nat) (hx : x < 4294967296) (w : World) : Calls Tryd.prog 19 #[.int .u32 (x : Int), .int .i64 22] w (fun e w' => e = .returned (.int .u32 ((rr x 22 : Nat) : Int)) ∧ w = w') := by
  go_enter Tryd.func19, Tryd.ntmps19
  go_wp2_with (first
    | go_skip
    | (go_at_call 24; refine (left_22 x hx _).mono ?_; rintro e w2 ⟨rfl, rfl⟩))
  go_ret
  exact ⟨rfl, rfl⟩

theorem left_25 (x : Nat) (hx : x < 4294967296) (w : World) : Calls Tryd.prog 24 #[.int .u32 (x : Int), .int .i64 (-25)] w (fun e w' => e = .returned (.int .u32 ((rr x 25 : Nat) : Int)) ∧ w = w') := by
  have h1 : bits .and .u64 (IntKind.u64.wrap (-25)) 31 = 7 := by decide
  have h3 : bits .or .u32 ((x : Int) * 128 % 4294967296) ((x : Int) / 33554432) = ((rr x 25 : Nat) : Int) := by
    have := u32_or_nat (x * 128 % 4294967296) (x / 33554432) (by omega) (by omega)
    simpa [rr] using this
  go_enter Tryd.func24, Tryd.ntmps24
  go_wp2
  go_ret
  exact ⟨by simp, rfl⟩
theorem right_25 (x : Nat) (hx : x < 4294967296) (w : World) : Calls Tryd.prog 19 #[.int .u32 (x : Int), .int .i64 25] w (fun e w' => e = .returned (.int .u32 ((rr x 25 : Nat) : Int)) ∧ w = w') := by
  go_enter Tryd.func19, Tryd.ntmps19
  go_wp2_with (first
    | go_skip
    | (go_at_call 24; refine (left_25 x hx _).mono ?_; rintro e w2 ⟨rfl, rfl⟩))
  go_ret
  exact ⟨rfl, rfl⟩
end Go.Proofs.YtpchnmcofkffiaaDoor
