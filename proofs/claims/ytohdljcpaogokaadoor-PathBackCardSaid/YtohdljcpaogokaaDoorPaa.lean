/-
  The stage's theorem of the paths: the walk of its function.
-/
import Derived.Test.YtohdljcpaogokaaDoorPa9
namespace Go.Proofs.YtohdljcpaogokaaDoor
open Go.RowKit Go.SL

theorem split_ok {p : List UInt8} (h : splitE p = 0) : joinP (splitL p) = p := by
  unfold splitE at h
  unfold splitL
  split at h
  · rename_i h0
    rw [if_pos h0, h0]
    rfl
  · rename_i h0
    rw [if_neg h0]
    split at h
    · rename_i ha
      rw [if_pos ha]
      split at h
      · rename_i h6
        rw [if_pos h6]
        exact join_cuts p
      · simp at h
    · simp at h
theorem split_ne {p : List UInt8} (h : splitE p ≠ 0) : splitL p = [] := by
  unfold splitE at h
  unfold splitL
  split at h
  · simp at h
  · rename_i h0
    rw [if_neg h0]
    split at h
    · rename_i ha
      rw [if_pos ha]
      split at h
      · simp at h
      · rename_i h6
        rw [if_neg h6]
    · rename_i ha
      rw [if_neg ha]
theorem joinP_ne {xs : List (List UInt8)} (h0 : xs ≠ []) (h : xs.all isName = true) : joinP xs ≠ [] := by
  obtain ⟨a, t, rfl⟩ := List.exists_cons_of_ne_nil h0
  simp only [List.all_cons, Bool.and_eq_true] at h
  have ha := (name_len h.1).1
  intro e
  have : (joinP (a :: t)).length = 0 := by rw [e]; rfl
  cases t with
  | nil => rw [joinP_one] at this; omega
  | cons b t => rw [joinP_cons a (by simp), List.length_append] at this; omega
theorem join_split {xs : List (List UInt8)} (h0 : xs ≠ []) (h : xs.all isName = true) (h6 : xs.length ≤ 6) : splitL (joinP xs) = xs ∧ splitE (joinP xs) = 0 := by
  have hc := cuts_join xs h0 h
  have := split_good (joinP_ne h0 h) (by rw [hc]; exact h) (by rw [hc]; exact h6)
  rwa [hc] at this
theorem joins_many {xs : List (List UInt8)} (h0 : xs ≠ []) (h : xs.all isName = true) (h6 : ¬ xs.length ≤ 6) : splitL (joinP xs) = [] ∧ splitE (joinP xs) = 6 := by
  have hc := cuts_join xs h0 h
  exact split_many (joinP_ne h0 h) (by rw [hc]; exact h) (by rw [hc]; exact h6)
def namesB (xs : List (List UInt8)) (k : Nat) : Bool := decide (0 < xs.length) && (xs.take k).all isName
theorem names_step {xs : List (List UInt8)} {k : Nat} (h : k < xs.length) : namesB xs (k + 1) = (namesB xs k && isName xs[k]) := by
  unfold namesB
  rw [List.take_succ_eq_append_getElem h, List.all_append, Bool.and_assoc]
  simp
def NmsRel (xs : List (List UInt8)) (l : List HProp) (b i : Value) (wr : World) : Prop := ∃ k : Nat, k ≤ xs.length ∧ i = .int .i64 k ∧ b = .bool (namesB xs k) ∧ Ent l wr


set_option maxRecDepth 100000 in
set_option maxHeartbeats 4000000 in
theorem pback_5 {p : List UInt8} {xs : List (List UInt8)} {ai : Option Addr} {ci : Nat} (hc : xs.length ≤ ci) {l : List HProp} {w : World} (hE : Ent l w) (hk : Knows l (reads (.slice ai xs.length ci) xs.length (xs.map strv))) (h5 : (500 : Int) < (p.length : Int)) :
    Calls Tryd.prog 4 #[.string ⟨p.toArray⟩, .slice ai xs.length ci] w (Ret fun v w' => v = .bool true ∧ Ent l w') := by
  clear hc hk
  go_enter Tryd.func4, Tryd.ntmps4
  go_wp2_with (first
    | go_skip
    | (go_at_call 8; refine (wakes19_any hE).mono ?_; clear hE; rintro e w3 ⟨v, rfl, rfl, hE⟩))
  go_ret
  exact ⟨_, rfl, rfl, hE⟩

set_option maxRecDepth 100000 in
set_option maxHeartbeats 4000000 in
theorem pback_1 {p : List UInt8} {xs : List (List UInt8)} {ai : Option Addr} {ci : Nat} (hc : xs.length ≤ ci) {l : List HProp} {w : World} (hE : Ent l w) (hk : Knows l (reads (.slice ai xs.length ci) xs.length (xs.map strv))) (h5 : ¬ (500 : Int) < (p.length : Int)) (he : splitE p = 0) :
    Calls Tryd.prog 4 #[.string ⟨p.toArray⟩, .slice ai xs.length ci] w (Ret fun v w' => v = .bool true ∧ Ent l w') := by
  have GRT : ∀ {w : World}, Ent l w → Calls Tryd.prog 7 #[.slice ai xs.length ci] w (Ret fun v w' => GsPost xs v ∧ Ent l w') := fun h => great19_any h hk
  have d1 : decide ((500 : Int) < (p.length : Int)) = false := decide_eq_false h5
  have hpl : p.length ≤ 500 := by omega
  clear h5
  have Hsn := SL.hid (splitL_names p)
  have Hsl := SL.hid (splitL_len p)
  have hsl6 : decide ((6 : Int) < ((splitL p).length : Int)) = false := decide_eq_false (by have := (splitL_names p).1; omega)
  have hS : ∀ {l : List HProp} {w : World}, Ent l w → Calls Tryd.prog 9 #[.string ⟨p.toArray⟩] w (Ret fun v w' => ∃ ao c, v = .tuple #[.slice ao (splitL p).length c, .int .i64 (splitE p)] ∧ Ent (rowS ao c (splitL p) :: l) w') := fun h => Split_any (by omega) h
  have hJa : ∀ {ao : Option Addr} {c : Nat} {l : List HProp} {w : World}, Ent (rowS ao c (splitL p) :: l) w → Calls Tryd.prog 14 #[.slice ao (splitL p).length c] w (Ret fun v w' => v = .string ⟨p.toArray⟩ ∧ Ent (rowS ao c (splitL p) :: l) w') := fun h => by
    have H := Join_any (xs := splitL p) (by have := Hsn.out.1; omega) Hsl.out (row_cap h 0 rfl) h (fun W hW => reads_row hW 0 rfl)
    rw [split_ok he] at H
    exact H
  rw [he] at hS
  clear he
  have hJ : bndS xs → ∀ {A : HProp} {w : World}, Ent (A :: l) w → Calls Tryd.prog 14 #[.slice ai xs.length ci] w (Ret fun v w' => v = .string ⟨(joinP xs).toArray⟩ ∧ Ent (A :: l) w') := fun hb _ _ h => Join_any (by have := hb.1; omega) (fun x hx => by have := hb.2 x hx; omega) hc h hk.cons
  have Hjl := SL.hid (show bndS xs → (joinP xs).length ≤ 1000000 from fun hb => by
    have h1 := joinP_len xs (fun x hx => by have := hb.2 x hx; omega)
    have h2 : xs.length * 601 ≤ 30 * 601 := Nat.mul_le_mul_right _ hb.1
    omega)
  generalize splitL p = sl at *
  go_enter Tryd.func4, Tryd.ntmps4
  go_wp2_with (first
    | go_skip
    | (go_at_call 7; refine (GRT hE).mono ?_; clear hE; rintro e w2 ⟨v, rfl, ⟨g, rfl, hgr⟩, hE⟩; have Hgr := SL.hid hgr; clear hgr; cases g)
    | (go_at_call 8; refine (wakes19_any hE).mono ?_; clear hE; rintro e w3 ⟨v, rfl, rfl, hE9⟩)
    | (go_at_call 9; refine (hS hE).mono ?_; clear hE; rintro e w4 ⟨v, rfl, a1, c1, rfl, hE1⟩)
    | (go_at_call 14; refine (hJa hE1).mono ?_; clear hE1; rintro e w5 ⟨v, rfl, rfl, hE1⟩))
  all_goals (try (go_ret; exact ⟨_, rfl, rfl, hE9⟩))
  have Hb := SL.hid (show bndS xs from Hgr.out (by first | exact rfl | trivial))
  clear Hgr
  have hslb : sl.length ≤ 1000 := by have := Hsn.out.1; omega
  have hxsb : xs.length ≤ 1000 := by have := Hb.out.1; omega
  go_loopw [7] (fun i wr => RwRel sl.length (rowS a1 c1 sl :: l) i wr) (fun i _ => sl.length - (intOf i).toNat)
  case atStart => exact ⟨0, Nat.zero_le _, rfl, hE1⟩
  case round =>
    clear hE1
    obtain ⟨k, hkl, rfl, hE⟩ := hrel
    by_cases hlt : k < sl.length
    · obtain ⟨g, rfl, _, _⟩ := hE.rowIs 0 rfl (by omega)
      have k0 : wr.cell? ⟨g, k, none⟩ = some (.string ⟨sl[k].toArray⟩) := hE.rowCell 0 rfl (by simp [strv, List.getElem?_eq_getElem hlt])
      have hn : isName sl[k] = true := List.all_eq_true.1 Hsn.out.2 _ (List.getElem_mem hlt)
      have hxl := Hsl.out _ (List.getElem_mem hlt)
      have hN := fun w => Name_any sl[k] (by omega) w
      rw [hn] at hN
      clear hn
      generalize sl[k] = x at *
      go_wp2_with (first
        | go_skip
        | (go_at_call 11; refine (hN _).mono ?_; rintro e w6 ⟨rfl, rfl⟩))
      go_roundw
      case rel => exact ⟨k + 1, hlt, by first | rfl | simp, hE⟩
      case measure => simp [intOf] <;> omega
    · clear hkl
      have hkd : decide (k < sl.length) = false := decide_eq_false hlt
      clear hlt
      go_wp2
      go_loopw [8, 9] (fun b i wr => NmsRel xs (rowS a1 c1 sl :: l) b i wr) (fun _ i _ => xs.length - (intOf i).toNat)
      case atStart => exact ⟨0, Nat.zero_le _, rfl, by simp [namesB], hE⟩
      case round =>
        clear hE hkd
        obtain ⟨j, hjl, rfl, rfl, hE⟩ := hrel
        by_cases hlt : j < xs.length
        · obtain ⟨b1, o1, rfl, hcl⟩ := reads_form (hk _ hE.tail) (by omega) (by simp; omega)
          clear hcl
          have k0 := str_cells (hk _ hE.tail) hlt
          have Hs := SL.hid (names_step hlt)
          have hxl := Hb.out.2 _ (List.getElem_mem hlt)
          have hN := fun w => Name_any xs[j] (by omega) w
          generalize xs[j] = x at *
          generalize hnb : namesB xs j = nb at *
          clear hnb
          generalize isName x = nx at *
          cases nb
          all_goals
            go_wp2_with (first
              | go_skip
              | (go_at_call 11; refine (hN _).mono ?_; rintro e w6 ⟨rfl, rfl⟩))
            go_roundw
            case rel => exact ⟨j + 1, hlt, by first | rfl | simp, by rw [Hs.out]; first | rfl | simp, hE⟩
            case measure => simp [intOf] <;> omega
        · have e1 : namesB xs j = (decide (0 < xs.length) && xs.all isName) := by rw [namesB, show j = xs.length by omega, List.take_length]
          rw [e1]
          clear e1
          have hjd : decide (j < xs.length) = false := decide_eq_false hlt
          clear hlt hjl
          by_cases hnm : xs ≠ [] ∧ xs.all isName = true
          · obtain ⟨hx0, hxa⟩ := hnm
            have hx1 : decide (0 < xs.length) = true := decide_eq_true (List.length_pos_iff.2 hx0)
            by_cases h6 : xs.length ≤ 6
            · obtain ⟨q1, q2⟩ := join_split hx0 hxa h6
              have hS2 : ∀ {l : List HProp} {w : World}, Ent l w → Calls Tryd.prog 9 #[.string ⟨(joinP xs).toArray⟩] w (Ret fun v w' => ∃ ao c, v = .tuple #[.slice ao xs.length c, .int .i64 0] ∧ Ent (rowS ao c xs :: l) w') := fun h => by
                have H := Split_any (p := joinP xs) (Hjl.out Hb.out) h
                rw [q1, q2] at H
                exact H
              have h6d : (xs.length : Int) ≤ 6 := by omega
              clear q1 q2 hx0 h6
              rw [hxa, hx1]
              clear hxa
              generalize joinP xs = jn at *
              go_wp2_with (first
                | go_skip
                | (go_at_call 14; refine (hJ Hb.out hE).mono ?_; clear hE; rintro e w7 ⟨v, rfl, rfl, hE2⟩)
                | (go_at_call 9; refine (hS2 hE2).mono ?_; clear hE2; rintro e w8 ⟨v, rfl, a3, c3, rfl, hE3⟩)
                | (go_at_call 13; refine (row_same (xs := xs) (by have := Hb.out.1; omega) hE3 (fun W hW => reads_row hW 0 rfl) hk.cons.cons).mono ?_; clear hE3; rintro e w9 ⟨v, rfl, rfl, hE4⟩)
                | (go_at_call 8; refine (wakes19_any hE4).mono ?_; clear hE4; rintro e wa ⟨v, rfl, rfl, hE5⟩))
              go_ret
              exact ⟨_, rfl, rfl, hE5.tail.tail⟩
            · obtain ⟨q1, q2⟩ := joins_many hx0 hxa h6
              have hS2 : ∀ {l : List HProp} {w : World}, Ent l w → Calls Tryd.prog 9 #[.string ⟨(joinP xs).toArray⟩] w (Ret fun v w' => ∃ ao c, v = .tuple #[.slice ao 0 c, .int .i64 6] ∧ Ent (rowS ao c [] :: l) w') := fun h => by
                have H := Split_any (p := joinP xs) (Hjl.out Hb.out) h
                rw [q1, q2] at H
                exact H
              have h6d : decide ((xs.length : Int) ≤ 6) = false := decide_eq_false (by omega)
              clear q1 q2 hx0 h6
              rw [hxa, hx1]
              clear hxa
              generalize joinP xs = jn at *
              go_wp2_with (first
                | go_skip
                | (go_at_call 14; refine (hJ Hb.out hE).mono ?_; clear hE; rintro e w7 ⟨v, rfl, rfl, hE2⟩)
                | (go_at_call 9; refine (hS2 hE2).mono ?_; clear hE2; rintro e w8 ⟨v, rfl, a3, c3, rfl, hE3⟩)
                | (go_at_call 8; refine (wakes19_any hE3).mono ?_; clear hE3; rintro e wa ⟨v, rfl, rfl, hE5⟩))
              go_ret
              exact ⟨_, rfl, rfl, hE5.tail.tail⟩
          · have e0 : (decide (0 < xs.length) && xs.all isName) = false := by
              rw [← Bool.not_eq_true, Bool.and_eq_true, decide_eq_true_eq, List.length_pos_iff]
              exact hnm
            rw [e0]
            clear e0 hnm
            have hS2 : ∀ {l : List HProp} {w : World}, Ent l w → Calls Tryd.prog 9 #[.string ⟨(joinP xs).toArray⟩] w (Ret fun v w' => ∃ ao c, v = .tuple #[.slice ao (splitL (joinP xs)).length c, .int .i64 (splitE (joinP xs))] ∧ Ent (rowS ao c (splitL (joinP xs)) :: l) w') := fun h => Split_any (p := joinP xs) (Hjl.out Hb.out) h
            generalize splitL (joinP xs) = sl2 at *
            generalize splitE (joinP xs) = se2 at *
            generalize joinP xs = jn at *
            go_wp2_with (first
              | go_skip
              | (go_at_call 14; refine (hJ Hb.out hE).mono ?_; clear hE; rintro e w7 ⟨v, rfl, rfl, hE2⟩)
              | (go_at_call 9; refine (hS2 hE2).mono ?_; clear hE2; rintro e w8 ⟨v, rfl, a3, c3, rfl, hE3⟩)
              | (go_at_call 8; refine (wakes19_any hE3).mono ?_; clear hE3; rintro e wa ⟨v, rfl, rfl, hE5⟩))
            go_ret
            exact ⟨_, rfl, rfl, hE5.tail.tail⟩

set_option maxRecDepth 100000 in
set_option maxHeartbeats 4000000 in
theorem pback_0 {p : List UInt8} {xs : List (List UInt8)} {ai : Option Addr} {ci : Nat} (hc : xs.length ≤ ci) {l : List HProp} {w : World} (hE : Ent l w) (hk : Knows l (reads (.slice ai xs.length ci) xs.length (xs.map strv))) (h5 : ¬ (500 : Int) < (p.length : Int)) (he : splitE p ≠ 0) :
    Calls Tryd.prog 4 #[.string ⟨p.toArray⟩, .slice ai xs.length ci] w (Ret fun v w' => v = .bool true ∧ Ent l w') := by
  have GRT : ∀ {w : World}, Ent l w → Calls Tryd.prog 7 #[.slice ai xs.length ci] w (Ret fun v w' => GsPost xs v ∧ Ent l w') := fun h => great19_any h hk
  have d1 : decide ((500 : Int) < (p.length : Int)) = false := decide_eq_false h5
  have hpl : p.length ≤ 500 := by omega
  clear h5
  have Hsn := SL.hid (splitL_names p)
  have Hsl := SL.hid (splitL_len p)
  have hsl6 : decide ((6 : Int) < ((splitL p).length : Int)) = false := decide_eq_false (by have := (splitL_names p).1; omega)
  have hS : ∀ {l : List HProp} {w : World}, Ent l w → Calls Tryd.prog 9 #[.string ⟨p.toArray⟩] w (Ret fun v w' => ∃ ao c, v = .tuple #[.slice ao (splitL p).length c, .int .i64 (splitE p)] ∧ Ent (rowS ao c (splitL p) :: l) w') := fun h => Split_any (by omega) h
  have hnil := split_ne he
  have he' : (splitE p != 0) = true := by simpa using he
  have he2 : (splitE p == 0) = false := by simpa using he
  generalize splitE p = pe at *
  clear he
  have hJ : bndS xs → ∀ {A : HProp} {w : World}, Ent (A :: l) w → Calls Tryd.prog 14 #[.slice ai xs.length ci] w (Ret fun v w' => v = .string ⟨(joinP xs).toArray⟩ ∧ Ent (A :: l) w') := fun hb _ _ h => Join_any (by have := hb.1; omega) (fun x hx => by have := hb.2 x hx; omega) hc h hk.cons
  have Hjl := SL.hid (show bndS xs → (joinP xs).length ≤ 1000000 from fun hb => by
    have h1 := joinP_len xs (fun x hx => by have := hb.2 x hx; omega)
    have h2 : xs.length * 601 ≤ 30 * 601 := Nat.mul_le_mul_right _ hb.1
    omega)
  rw [hnil] at hS hsl6 Hsn Hsl
  clear hnil
  generalize hsl : ([] : List (List UInt8)) = sl at hS Hsn Hsl hsl6
  have hlen0 : sl.length = 0 := by rw [← hsl]; rfl
  clear hsl
  go_enter Tryd.func4, Tryd.ntmps4
  go_wp2_with (first
    | go_skip
    | (go_at_call 7; refine (GRT hE).mono ?_; clear hE; rintro e w2 ⟨v, rfl, ⟨g, rfl, hgr⟩, hE⟩; have Hgr := SL.hid hgr; clear hgr; cases g)
    | (go_at_call 8; refine (wakes19_any hE).mono ?_; clear hE; rintro e w3 ⟨v, rfl, rfl, hE9⟩)
    | (go_at_call 9; refine (hS hE).mono ?_; clear hE; rintro e w4 ⟨v, rfl, a1, c1, rfl, hE1⟩))
  all_goals (try (go_ret; exact ⟨_, rfl, rfl, hE9⟩))
  have Hb := SL.hid (show bndS xs from Hgr.out (by first | exact rfl | trivial))
  clear Hgr
  have hslb : sl.length ≤ 1000 := by have := Hsn.out.1; omega
  have hxsb : xs.length ≤ 1000 := by have := Hb.out.1; omega
  go_loopw [7] (fun i wr => RwRel sl.length (rowS a1 c1 sl :: l) i wr) (fun i _ => sl.length - (intOf i).toNat)
  case atStart => exact ⟨0, Nat.zero_le _, rfl, hE1⟩
  case round =>
    clear hE1
    obtain ⟨k, hkl, rfl, hE⟩ := hrel
    by_cases hlt : k < sl.length
    · exact absurd hlt (by omega)
    · clear hkl
      have hkd : decide (k < sl.length) = false := decide_eq_false hlt
      clear hlt
      go_wp2
      go_loopw [8, 9] (fun b i wr => NmsRel xs (rowS a1 c1 sl :: l) b i wr) (fun _ i _ => xs.length - (intOf i).toNat)
      case atStart => exact ⟨0, Nat.zero_le _, rfl, by simp [namesB], hE⟩
      case round =>
        clear hE hkd
        obtain ⟨j, hjl, rfl, rfl, hE⟩ := hrel
        by_cases hlt : j < xs.length
        · obtain ⟨b1, o1, rfl, hcl⟩ := reads_form (hk _ hE.tail) (by omega) (by simp; omega)
          clear hcl
          have k0 := str_cells (hk _ hE.tail) hlt
          have Hs := SL.hid (names_step hlt)
          have hxl := Hb.out.2 _ (List.getElem_mem hlt)
          have hN := fun w => Name_any xs[j] (by omega) w
          generalize xs[j] = x at *
          generalize hnb : namesB xs j = nb at *
          clear hnb
          generalize isName x = nx at *
          cases nb
          all_goals
            go_wp2_with (first
              | go_skip
              | (go_at_call 11; refine (hN _).mono ?_; rintro e w6 ⟨rfl, rfl⟩))
            go_roundw
            case rel => exact ⟨j + 1, hlt, by first | rfl | simp, by rw [Hs.out]; first | rfl | simp, hE⟩
            case measure => simp [intOf] <;> omega
        · have e1 : namesB xs j = (decide (0 < xs.length) && xs.all isName) := by rw [namesB, show j = xs.length by omega, List.take_length]
          rw [e1]
          clear e1
          have hjd : decide (j < xs.length) = false := decide_eq_false hlt
          clear hlt hjl
          by_cases hnm : xs ≠ [] ∧ xs.all isName = true
          · obtain ⟨hx0, hxa⟩ := hnm
            have hx1 : decide (0 < xs.length) = true := decide_eq_true (List.length_pos_iff.2 hx0)
            by_cases h6 : xs.length ≤ 6
            · obtain ⟨q1, q2⟩ := join_split hx0 hxa h6
              have hS2 : ∀ {l : List HProp} {w : World}, Ent l w → Calls Tryd.prog 9 #[.string ⟨(joinP xs).toArray⟩] w (Ret fun v w' => ∃ ao c, v = .tuple #[.slice ao xs.length c, .int .i64 0] ∧ Ent (rowS ao c xs :: l) w') := fun h => by
                have H := Split_any (p := joinP xs) (Hjl.out Hb.out) h
                rw [q1, q2] at H
                exact H
              have h6d : (xs.length : Int) ≤ 6 := by omega
              clear q1 q2 hx0 h6
              rw [hxa, hx1]
              clear hxa
              generalize joinP xs = jn at *
              go_wp2_with (first
                | go_skip
                | (go_at_call 14; refine (hJ Hb.out hE).mono ?_; clear hE; rintro e w7 ⟨v, rfl, rfl, hE2⟩)
                | (go_at_call 9; refine (hS2 hE2).mono ?_; clear hE2; rintro e w8 ⟨v, rfl, a3, c3, rfl, hE3⟩)
                | (go_at_call 13; refine (row_same (xs := xs) (by have := Hb.out.1; omega) hE3 (fun W hW => reads_row hW 0 rfl) hk.cons.cons).mono ?_; clear hE3; rintro e w9 ⟨v, rfl, rfl, hE4⟩)
                | (go_at_call 8; refine (wakes19_any hE4).mono ?_; clear hE4; rintro e wa ⟨v, rfl, rfl, hE5⟩))
              go_ret
              exact ⟨_, rfl, rfl, hE5.tail.tail⟩
            · obtain ⟨q1, q2⟩ := joins_many hx0 hxa h6
              have hS2 : ∀ {l : List HProp} {w : World}, Ent l w → Calls Tryd.prog 9 #[.string ⟨(joinP xs).toArray⟩] w (Ret fun v w' => ∃ ao c, v = .tuple #[.slice ao 0 c, .int .i64 6] ∧ Ent (rowS ao c [] :: l) w') := fun h => by
                have H := Split_any (p := joinP xs) (Hjl.out Hb.out) h
                rw [q1, q2] at H
                exact H
              have h6d : decide ((xs.length : Int) ≤ 6) = false := decide_eq_false (by omega)
              clear q1 q2 hx0 h6
              rw [hxa, hx1]
              clear hxa
              generalize joinP xs = jn at *
              go_wp2_with (first
                | go_skip
                | (go_at_call 14; refine (hJ Hb.out hE).mono ?_; clear hE; rintro e w7 ⟨v, rfl, rfl, hE2⟩)
                | (go_at_call 9; refine (hS2 hE2).mono ?_; clear hE2; rintro e w8 ⟨v, rfl, a3, c3, rfl, hE3⟩)
                | (go_at_call 8; refine (wakes19_any hE3).mono ?_; clear hE3; rintro e wa ⟨v, rfl, rfl, hE5⟩))
              go_ret
              exact ⟨_, rfl, rfl, hE5.tail.tail⟩
          · have e0 : (decide (0 < xs.length) && xs.all isName) = false := by
              rw [← Bool.not_eq_true, Bool.and_eq_true, decide_eq_true_eq, List.length_pos_iff]
              exact hnm
            rw [e0]
            clear e0 hnm
            have hS2 : ∀ {l : List HProp} {w : World}, Ent l w → Calls Tryd.prog 9 #[.string ⟨(joinP xs).toArray⟩] w (Ret fun v w' => ∃ ao c, v = .tuple #[.slice ao (splitL (joinP xs)).length c, .int .i64 (splitE (joinP xs))] ∧ Ent (rowS ao c (splitL (joinP xs)) :: l) w') := fun h => Split_any (p := joinP xs) (Hjl.out Hb.out) h
            generalize splitL (joinP xs) = sl2 at *
            generalize splitE (joinP xs) = se2 at *
            generalize joinP xs = jn at *
            go_wp2_with (first
              | go_skip
              | (go_at_call 14; refine (hJ Hb.out hE).mono ?_; clear hE; rintro e w7 ⟨v, rfl, rfl, hE2⟩)
              | (go_at_call 9; refine (hS2 hE2).mono ?_; clear hE2; rintro e w8 ⟨v, rfl, a3, c3, rfl, hE3⟩)
              | (go_at_call 8; refine (wakes19_any hE3).mono ?_; clear hE3; rintro e wa ⟨v, rfl, rfl, hE5⟩))
            go_ret
            exact ⟨_, rfl, rfl, hE5.tail.tail⟩

theorem PathBack_any {p : List UInt8} {xs : List (List UInt8)} {ai : Option Addr} {ci : Nat} (hc : xs.length ≤ ci) {l : List HProp} {w : World} (hE : Ent l w) (hk : Knows l (reads (.slice ai xs.length ci) xs.length (xs.map strv))) :
    Calls Tryd.prog 4 #[.string ⟨p.toArray⟩, .slice ai xs.length ci] w (Ret fun v w' => v = .bool true ∧ Ent l w') := by
  by_cases h5 : (500 : Int) < (p.length : Int)
  · exact pback_5 hc hE hk h5
  by_cases he : splitE p = 0
  · exact pback_1 hc hE hk h5 he
  · exact pback_0 hc hE hk h5 he
end Go.Proofs.YtohdljcpaogokaaDoor
