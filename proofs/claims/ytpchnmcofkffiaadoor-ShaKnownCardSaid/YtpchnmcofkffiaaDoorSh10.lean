/-
  The hash of a million equal bytes.
-/
import Derived.Test.YtpchnmcofkffiaaDoorSh9
namespace Go.Proofs.YtpchnmcofkffiaaDoor

theorem sha_rep (n : Nat) : shaV (List.replicate (64 * n) 97) = outOf (eatAll (itW n hFirst) (pad [] (64 * n * 8)) ((pad [] (64 * n * 8)).length / 64)) := by
  have h1 : (List.replicate (64 * n) (97 : UInt8)).drop (n * 64) = [] := List.drop_of_length_le (by rw [List.length_replicate]; omega)
  unfold shaV
  rw [List.length_replicate, Nat.mul_div_cancel_left _ (by decide)]
  simp only [h1, eatAll_rep]
set_option maxRecDepth 100000 in
theorem last_block : outOf (eatAll hMillion (pad [] (64 * 15625 * 8)) ((pad [] (64 * 15625 * 8)).length / 64)) = known4 := by decide +kernel
theorem sha_million {m : Nat} (h : m = 1000000) : shaV (List.replicate m 97) = known4 := by
  obtain ⟨q, hq⟩ : ∃ q, q = 15625 := ⟨_, rfl⟩
  have e : m = 64 * q := by omega
  rw [e, sha_rep, hq, million_is]
  exact last_block
end Go.Proofs.YtpchnmcofkffiaaDoor
