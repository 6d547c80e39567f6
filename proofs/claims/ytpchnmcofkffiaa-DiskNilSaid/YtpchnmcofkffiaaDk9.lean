/-
  The law of no disk.
-/
import Derived.Test.YtpchnmcofkffiaaDk8
namespace Go.Proofs.Ytpchnmcofkffiaa
open Go.RowKit Go.SL

set_option maxRecDepth 100000 in
set_option maxHeartbeats 2000000 in
theorem DiskNil_any {l : List HProp} {w : World} (k : Int) (keep : ByteArray) (hE : Ent l w) :
    Calls Try.prog 8 #[.int .i64 k, .string keep] w (Ret fun v w' => v = .bool true ∧ Ent l w') := by
  go_enter Try.func8, Try.ntmps8
  go_wp2_with (first
    | go_skip
    | (go_at_call 39; go_loud (have H := Read_nil k hE; refine H.mono ?_; clear H hE; rintro e w2 ⟨v, rfl, rfl, hE⟩))
    | (go_at_call 40; have H := Write_nil (k := k) hE; refine H.mono ?_; clear H hE; rintro e w2 ⟨v, rfl, rfl, hE⟩)
    | (go_at_call 35; have H := Flush_nil hE; refine H.mono ?_; clear H hE; rintro e w2 ⟨v, rfl, rfl, hE⟩)
    | (go_at_call 36; have H := Fuse_nil k keep hE; refine H.mono ?_; clear H hE; rintro e w2 ⟨v, rfl, rfl, hE⟩)
    | (go_at_call 37; have H := Crash_nil keep hE; refine H.mono ?_; clear H hE; rintro e w2 ⟨v, rfl, rfl, hE⟩)
    | (go_at_call 38; have H := Start_nil hE; refine H.mono ?_; clear H hE; rintro e w2 ⟨v, rfl, rfl, hE⟩)
    | (go_at_call 34; refine (Alive_nil _).mono ?_; rintro e w2 ⟨rfl, rfl⟩)
    | (go_at_call 50; refine (Len_nil _).mono ?_; rintro e w2 ⟨rfl, rfl⟩)
    | (go_at_call 47; refine (Waiting_nil _).mono ?_; rintro e w2 ⟨rfl, rfl⟩)
    | (go_at_call 48; refine (Acts_nil _).mono ?_; rintro e w2 ⟨rfl, rfl⟩)
    | (go_at_call 42; have H := Raw_nil k hE; refine H.mono ?_; clear H hE; rintro e w2 ⟨v, rfl, rfl, hE⟩)
    | (go_at_call 44; have H := Copy_nil hE; refine H.mono ?_; clear H hE; rintro e w2 ⟨v, rfl, rfl, hE⟩)
    | (go_at_call 31; have H := wakes4_any hE; refine H.mono ?_; clear H hE; rintro e w2 ⟨v, rfl, rfl, hE⟩))
  go_ret
  exact ⟨_, rfl, rfl, hE⟩
end Go.Proofs.Ytpchnmcofkffiaa
