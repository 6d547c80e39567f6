/-
  Paths that are known; the law of any text, any path and any texts: the walks of their functions.
-/
import Derived.Test.YtohdljcpaogokaaDoorPa8
import Derived.Test.YtohdljcpaogokaaDoorFr
namespace Go.Proofs.YtohdljcpaogokaaDoor
open Go.RowKit Go.SL

theorem splitL_names (p : List UInt8) : (splitL p).length ≤ 6 ∧ (splitL p).all isName = true := by
  unfold splitL
  split
  · simp
  · split
    · rename_i h
      split
      · rename_i h6
        exact ⟨h6, h⟩
      · simp
    · simp
theorem name_len {x : List UInt8} (h : isName x = true) : 1 ≤ x.length ∧ x.length ≤ 16 := by
  simp only [isName, Bool.and_eq_true, decide_eq_true_eq] at h
  exact h.2
theorem splitL_len (p : List UInt8) : ∀ x ∈ splitL p, x.length ≤ 600 := fun x hx => by
  have := (name_len (List.all_eq_true.1 (splitL_names p).2 x hx)).2
  omega
theorem row_cap {l : List HProp} {w : World} (hE : Ent l w) (i : Nat) {ao : Option Addr} {c : Nat} {xs : List (List UInt8)} (hi : l[i]? = some (rowS ao c xs)) : xs.length ≤ c := by
  rcases Nat.eq_zero_or_pos xs.length with h | h
  · omega
  · obtain ⟨_, _, h2, _⟩ := hE.rowIs i hi h
    exact h2

def k19a : List UInt8 := [97, 47, 98, 99]
theorem kn_split1 : splitL [97, 47, 98, 99] = [[97], [98, 99]] ∧ splitE [97, 47, 98, 99] = 0 := ⟨rfl, rfl⟩
theorem kn_split2 : splitL [97, 47, 47, 98] = [] ∧ splitE [97, 47, 47, 98] = 7 := ⟨rfl, rfl⟩
theorem kn_split3 : splitL [97, 47, 98, 47, 99, 47, 100, 47, 101, 47, 102, 47, 103] = [] ∧ splitE [97, 47, 98, 47, 99, 47, 100, 47, 101, 47, 102, 47, 103] = 6 := ⟨rfl, rfl⟩

set_option maxRecDepth 100000 in
set_option maxHeartbeats 4000000 in
theorem wakes19_any {l : List HProp} {w : World} (hE : Ent l w) :
    Calls Tryd.prog 8 #[] w (Ret fun v w' => v = .bool true ∧ Ent l w') := by
  have S1 : ∀ {l : List HProp} {w : World}, Ent l w → Calls Tryd.prog 9 #[.string ⟨#[97, 47, 98, 99]⟩] w (Ret fun v w' => ∃ ao c, v = .tuple #[.slice ao 2 c, .int .i64 0] ∧ Ent (rowS ao c [[97], [98, 99]] :: l) w') := fun h => by
    have H := Split_any (p := [97, 47, 98, 99]) (by simp) h
    rw [kn_split1.1, kn_split1.2] at H
    exact H
  have S2 : ∀ {l : List HProp} {w : World}, Ent l w → Calls Tryd.prog 9 #[.string ⟨#[97, 47, 47, 98]⟩] w (Ret fun v w' => ∃ ao c, v = .tuple #[.slice ao 0 c, .int .i64 7] ∧ Ent (rowS ao c [] :: l) w') := fun h => by
    have H := Split_any (p := [97, 47, 47, 98]) (by simp) h
    rw [kn_split2.1, kn_split2.2] at H
    exact H
  have S3 : ∀ {l : List HProp} {w : World}, Ent l w → Calls Tryd.prog 9 #[.string ⟨#[97, 47, 98, 47, 99, 47, 100, 47, 101, 47, 102, 47, 103]⟩] w (Ret fun v w' => ∃ ao c, v = .tuple #[.slice ao 0 c, .int .i64 6] ∧ Ent (rowS ao c [] :: l) w') := fun h => by
    have H := Split_any (p := [97, 47, 98, 47, 99, 47, 100, 47, 101, 47, 102, 47, 103]) (by simp) h
    rw [kn_split3.1, kn_split3.2] at H
    exact H
  have S4 : ∀ {l : List HProp} {w : World}, Ent l w → Calls Tryd.prog 9 #[.string ⟨#[]⟩] w (Ret fun v w' => ∃ ao c, v = .tuple #[.slice ao 0 c, .int .i64 0] ∧ Ent (rowS ao c [] :: l) w') := fun h => Split_any (p := []) (by simp) h
  have hN1 : ∀ w, Calls Tryd.prog 11 #[.string ⟨#[126]⟩] w (fun e w' => e = .returned (.bool true) ∧ w = w') := fun w => Name_any [126] (by simp) w
  have hN2 : ∀ w, Calls Tryd.prog 11 #[.string ⟨#[97, 32, 98]⟩] w (fun e w' => e = .returned (.bool false) ∧ w = w') := fun w => Name_any [97, 32, 98] (by simp) w
  have hJ : ∀ {ao : Option Addr} {c : Nat} {l : List HProp} {w : World}, 2 ≤ c → Ent l w → Knows l (reads (.slice ao 2 c) 2 ([[97], [98, 99]].map strv)) → Calls Tryd.prog 14 #[.slice ao 2 c] w (Ret fun v w' => v = .string ⟨#[97, 47, 98, 99]⟩ ∧ Ent l w') := fun hc h hk => Join_any (xs := [[97], [98, 99]]) (by simp) (by simp) hc h hk
  go_enter Tryd.func8, Tryd.ntmps8
  go_wp2_with (first
    | go_skip
    | (go_at_call 9; refine (S1 hE).mono ?_; clear hE; rintro e w2 ⟨v, rfl, a1, c1, rfl, hE1⟩)
    | (go_at_call 9; refine (S2 hE1).mono ?_; clear hE1; rintro e w3 ⟨v, rfl, a2, c2, rfl, hE2⟩)
    | (go_at_call 9; refine (S3 hE2).mono ?_; clear hE2; rintro e w4 ⟨v, rfl, a3, c3, rfl, hE3⟩)
    | (go_at_call 9; refine (S4 hE3).mono ?_; clear hE3; rintro e w5 ⟨v, rfl, a4, c4, rfl, hE4⟩; obtain ⟨g, rfl, hcap, _⟩ := hE4.rowIs 3 rfl (by simp); have r0 : w5.cell? ⟨g, 0, none⟩ = some (.string ⟨#[97]⟩) := hE4.rowCell 3 rfl rfl; have r1 : w5.cell? ⟨g, 1, none⟩ = some (.string ⟨#[98, 99]⟩) := hE4.rowCell 3 rfl rfl)
    | (go_at_call 14; refine (hJ hcap hE4 (fun W hW => reads_row hW 3 rfl)).mono ?_; clear hE4 r0 r1; rintro e w6 ⟨v, rfl, rfl, hE5⟩)
    | (go_at_call 11; refine (hN1 _).mono ?_; clear hN1; rintro e w7 ⟨rfl, rfl⟩)
    | (go_at_call 11; refine (hN2 _).mono ?_; clear hN2; rintro e w8 ⟨rfl, rfl⟩))
  go_ret
  exact ⟨_, rfl, rfl, hE5.tail.tail.tail.tail⟩

set_option maxRecDepth 100000 in
set_option maxHeartbeats 4000000 in
theorem PathTells_any {s p : List UInt8} {xs : List (List UInt8)} {ai : Option Addr} {ci : Nat} (hc : xs.length ≤ ci) {l : List HProp} {w : World} (hE : Ent l w) (hk : Knows l (reads (.slice ai xs.length ci) xs.length (xs.map strv))) :
    Calls Tryd.prog 3 #[.string ⟨s.toArray⟩, .string ⟨p.toArray⟩, .slice ai xs.length ci] w (Ret fun v w' => v = .bool true ∧ Ent l w') := by
  have GRT : ∀ {w : World}, Ent l w → Calls Tryd.prog 7 #[.slice ai xs.length ci] w (Ret fun v w' => GsPost xs v ∧ Ent l w') := fun h => great19_any h hk
  by_cases hs : (500 : Int) < (s.length : Int)
  · go_enter Tryd.func3, Tryd.ntmps3
    go_wp2_with (first
      | go_skip
      | (go_at_call 8; refine (wakes19_any hE).mono ?_; clear hE; rintro e w3 ⟨v, rfl, rfl, hE⟩))
    go_ret
    exact ⟨_, rfl, rfl, hE⟩
  by_cases hp : (500 : Int) < (p.length : Int)
  · have d1 : decide ((500 : Int) < (s.length : Int)) = false := decide_eq_false hs
    clear hs
    go_enter Tryd.func3, Tryd.ntmps3
    go_wp2_with (first
      | go_skip
      | (go_at_call 8; refine (wakes19_any hE).mono ?_; clear hE; rintro e w3 ⟨v, rfl, rfl, hE⟩))
    go_ret
    exact ⟨_, rfl, rfl, hE⟩
  have d1 : decide ((500 : Int) < (s.length : Int)) = false := decide_eq_false hs
  have d2 : decide ((500 : Int) < (p.length : Int)) = false := decide_eq_false hp
  have hsl : s.length ≤ 500 := by omega
  have hpl : p.length ≤ 500 := by omega
  clear hs hp
  have Hsp := SL.hid (splitL_names p)
  have hS : ∀ {l : List HProp} {w : World}, Ent l w → Calls Tryd.prog 9 #[.string ⟨p.toArray⟩] w (Ret fun v w' => ∃ ao c, v = .tuple #[.slice ao (splitL p).length c, .int .i64 (splitE p)] ∧ Ent (rowS ao c (splitL p) :: l) w') := fun h => Split_any (by omega) h
  have hR : ∀ {l : List HProp} {w : World}, Ent l w → Calls Tryd.prog 10 #[.string ⟨p.toArray⟩] w (Ret fun v w' => ∃ ao c, v = .tuple #[.slice ao (splitL p).length c, .int .i64 (splitE p)] ∧ Ent (rowS ao c (splitL p) :: l) w') := fun h => rSplit_any (by omega) h
  have hN := fun w => Name_any s (by omega) w
  have hM := fun w => rName_any s (by omega) w
  have hJ : bndS xs → ∀ {A B : HProp} {w : World}, Ent (A :: B :: l) w → Calls Tryd.prog 14 #[.slice ai xs.length ci] w (Ret fun v w' => v = .string ⟨(joinP xs).toArray⟩ ∧ Ent (A :: B :: l) w') := fun hb _ _ _ h => Join_any (by have := hb.1; omega) (fun x hx => by have := hb.2 x hx; omega) hc h hk.cons.cons
  have hK : bndS xs → ∀ {A B : HProp} {w : World}, Ent (A :: B :: l) w → Calls Tryd.prog 15 #[.slice ai xs.length ci] w (Ret fun v w' => v = .string ⟨(joinP xs).toArray⟩ ∧ Ent (A :: B :: l) w') := fun hb _ _ _ h => rJoin_any (by have := hb.1; omega) (fun x hx => by have := hb.2 x hx; omega) h hk.cons.cons
  generalize splitL p = sl at *
  generalize splitE p = se at *
  generalize isName s = nm at *
  generalize joinP xs = jn at *
  go_enter Tryd.func3, Tryd.ntmps3
  go_wp2_with (first
    | go_skip
    | (go_at_call 7; refine (GRT hE).mono ?_; clear hE; rintro e w2 ⟨v, rfl, ⟨g, rfl, hgr⟩, hE⟩; have Hgr := SL.hid hgr; clear hgr; cases g)
    | (go_at_call 8; refine (wakes19_any hE).mono ?_; clear hE; rintro e w3 ⟨v, rfl, rfl, hE9⟩)
    | (go_at_call 9; refine (hS hE).mono ?_; clear hE; rintro e w4 ⟨v, rfl, a1, c1, rfl, hE1⟩)
    | (go_at_call 10; refine (hR hE1).mono ?_; clear hE1; rintro e w5 ⟨v, rfl, a2, c2, rfl, hE2⟩)
    | (go_at_call 11; refine (hN _).mono ?_; rintro e w6 ⟨rfl, rfl⟩)
    | (go_at_call 12; refine (hM _).mono ?_; rintro e w7 ⟨rfl, rfl⟩)
    | (go_at_call 13; refine (row_same (xs := sl) (by have := Hsp.out.1; omega) hE2 (fun W hW => reads_row hW 1 rfl) (fun W hW => reads_row hW 0 rfl)).mono ?_; clear hE2; rintro e w8 ⟨v, rfl, rfl, hE3⟩)
    | (go_at_call 14; refine (hJ (Hgr.out (by first | exact rfl | trivial)) hE3).mono ?_; clear hE3; rintro e w9 ⟨v, rfl, rfl, hE4⟩)
    | (go_at_call 15; refine (hK (Hgr.out (by first | exact rfl | trivial)) hE4).mono ?_; clear hE4; rintro e wa ⟨v, rfl, rfl, hE5⟩)
    | (go_at_call 8; refine (wakes19_any hE5).mono ?_; clear hE5; rintro e wb ⟨v, rfl, rfl, hE9⟩))
  all_goals
    go_ret
    first
      | exact ⟨_, rfl, rfl, hE9⟩
      | exact ⟨_, rfl, rfl, hE9.tail.tail⟩
end Go.Proofs.YtohdljcpaogokaaDoor
