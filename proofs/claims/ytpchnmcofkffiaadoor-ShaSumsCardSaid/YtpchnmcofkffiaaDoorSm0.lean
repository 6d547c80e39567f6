/-
  Hashes that are known, and the two tables' cells (for the law of any bytes: without the million).
-/
import Derived.Test.YtpchnmcofkffiaaDoorSh7
import Derived.Lib.LaidTab
namespace Go.Proofs.YtpchnmcofkffiaaDoor
open Go.RowKit Go.SL

theorem known_abc {l : List HProp} {w : World} (ht : Knows l KTab) (hf : Knows l FTab) (hE : Ent l w) :
    Calls Tryd.prog 14 #[.string ⟨#[97, 98, 99]⟩, .string ⟨#[186, 120, 22, 191, 143, 1, 207, 234, 65, 65, 64, 222, 93, 174, 34, 35, 176, 3, 97, 163, 150, 23, 122, 156, 180, 16, 255, 97, 242, 0, 21, 173]⟩] w (Ret fun v w' => v = .bool true ∧ Ent l w') :=
  known_is (s := [97, 98, 99]) (t := known1) (by decide) sha_abc ht hf hE
theorem known_nil {l : List HProp} {w : World} (ht : Knows l KTab) (hf : Knows l FTab) (hE : Ent l w) :
    Calls Tryd.prog 14 #[.string ⟨#[]⟩, .string ⟨#[227, 176, 196, 66, 152, 252, 28, 20, 154, 251, 244, 200, 153, 111, 185, 36, 39, 174, 65, 228, 100, 155, 147, 76, 164, 149, 153, 27, 120, 82, 184, 85]⟩] w (Ret fun v w' => v = .bool true ∧ Ent l w') :=
  known_is (s := []) (t := known2) (by decide) sha_nil ht hf hE

set_option maxRecDepth 100000 in
theorem wakes3_any {l : List HProp} {w : World} (ht : Knows l KTab) (hf : Knows l FTab) (hE : Ent l w) :
    Calls Tryd.prog 11 #[] w (Ret fun v w' => v = .bool true ∧ Ent l w') := by
  have Ht := SL.hid ht
  have Hf := SL.hid hf
  clear ht hf
  go_enter Tryd.func11, Tryd.ntmps11
  go_wp2_with (first
    | go_skip
    | (go_at_call 14; (with_reducible (refine (known_abc Ht.out Hf.out hE).mono ?_)); clear hE; rintro e w2 ⟨v, rfl, rfl, hE⟩)
    | (go_at_call 14; (with_reducible (refine (known_nil Ht.out Hf.out hE).mono ?_)); clear hE; rintro e w2 ⟨v, rfl, rfl, hE⟩))
  go_ret
  exact ⟨_, rfl, rfl, hE⟩

theorem laidMet_tail {P : Program} {x : String × DataW Unit} {rest : List (String × DataW Unit)} {W : World} (h : laidMet P (x :: rest) W) : laidMet P rest W := by
  obtain ⟨ps, ⟨g, t, cs, fuel, p, q, h1, h2, h3, h4, hq, rfl⟩, hnd, hrows⟩ := h
  exact ⟨q, hq, (List.nodup_append.1 hnd).2.1, fun b off hp => hrows b off (List.mem_append_right _ hp)⟩

def kI : List Int := [1116352408, 1899447441, 3049323471, 3921009573, 961987163, 1508970993, 2453635748, 2870763221, 3624381080, 310598401, 607225278, 1426881987, 1925078388, 2162078206, 2614888103, 3248222580, 3835390401, 4022224774, 264347078, 604807628, 770255983, 1249150122, 1555081692, 1996064986, 2554220882, 2821834349, 2952996808, 3210313671, 3336571891, 3584528711, 113926993, 338241895, 666307205, 773529912, 1294757372, 1396182291, 1695183700, 1986661051, 2177026350, 2456956037, 2730485921, 2820302411, 3259730800, 3345764771, 3516065817, 3600352804, 4094571909, 275423344, 430227734, 506948616, 659060556, 883997877, 958139571, 1322822218, 1537002063, 1747873779, 1955562222, 2024104815, 2227730452, 2361852424, 2428436474, 2756734187, 3204031479, 3329325298]
def firstI : List Int := [1779033703, 3144134277, 1013904242, 2773480762, 1359893119, 2600822924, 528734635, 1541459225]
theorem kI_same : ∀ i, i < 64 → kI.getD i 0 = ((kTab.getD i 0 : Nat) : Int) := by decide
theorem firstI_same : ∀ i, i < 8 → firstI.getD i 0 = ((hFirst.list.getD i 0 : Nat) : Int) := by decide

theorem ktab_of {W : World} (h : Lib.TabIs Tryd.prog W "armarium/sha.k" .u32 kI) (hg : Tryd.prog.globalNamed "armarium/sha.k" = some 2) : KTab W := fun i hi => by
  have := h.cell hg i (by simpa [kI] using hi)
  rwa [kI_same i hi] at this
theorem ftab_of {W : World} (h : Lib.TabIs Tryd.prog W "armarium/sha.first" .u32 firstI) (hg : Tryd.prog.globalNamed "armarium/sha.first" = some 1) : FTab W := fun i u hu => by
  have hi : i < 8 := by simpa [W8.list] using (List.getElem?_eq_some_iff.1 hu).1
  have := h.cell hg i (by simpa [firstI] using hi)
  rw [firstI_same i hi] at this
  rw [Addr.add_lit, Nat.zero_add, this]
  have h2 := u32_cell (r := hFirst.list) (k := i) hi
  rw [List.getElem?_toArray, hu] at h2
  exact h2.symm

theorem knows_ktab {W : World} (h : KTab W) : Knows [rest W fun _ => False] KTab := fun w hE i hi => by
  rw [(hE.below 0 rfl).cell (cell_lt (h i hi))]
  exact h i hi
theorem knows_ftab {W : World} (h : FTab W) : Knows [rest W fun _ => False] FTab := fun w hE i u hu => by
  rw [(hE.below 0 rfl).cell (cell_lt (h i u hu))]
  exact h i u hu
end Go.Proofs.YtpchnmcofkffiaaDoor
