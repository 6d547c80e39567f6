/-
  The law of rows of changes, composed and reversed. (Printed by gen_ds2.py.)
-/
import Derived.Test.YtcpgelpajppgdaaDoorDiffUF6
namespace Go.Proofs.YtcpgelpajppgdaaDoor
open Go.RowKit Go.SL

theorem cmp_len (a b : List Ch) : (cmpP a b).length ≤ a.length + b.length := by
  unfold cmpP
  split
  · split
    · have h1 := List.length_filterMap_le (fun p : Option Ch × Option Ch => compO p.1 p.2) (pairsC a b)
      have h2 := sortK_len (a.map Ch.path ++ b.map Ch.path)
      have h3 : (pairsC a b).length = (sortK (a.map Ch.path ++ b.map Ch.path)).length := List.length_map _
      rw [List.length_append, List.length_map, List.length_map] at h2
      omega
    · simp
  · simp
theorem rev_len (a : List Ch) : (revP a).length ≤ a.length := by
  unfold revP
  split <;> simp
set_option maxRecDepth 100000 in
set_option maxHeartbeats 4000000 in
theorem comps_not {xs ys : List Ch} {b1 b2 : Bool} (h1 : gr28 xs = b1) (h2 : gr28 ys = b2) (hn : b1 = true ∨ b2 = true) {aa ab : Option Addr} {ca cb : Nat} {l : List HProp} {w : World} (hka : Knows l (reads (.slice aa xs.length ca) xs.length (xs.flatMap chC))) (hkb : Knows l (reads (.slice ab ys.length cb) ys.length (ys.flatMap chC))) (hE : Ent l w) :
    Calls Tryd.prog 5 #[.slice aa xs.length ca, .slice ab ys.length cb] w (Ret fun v w' => v = .bool true ∧ Ent l w') := by
  have HG1 := SL.hid (fun (L : List HProp) (w : World) (hs : l <:+ L) (h : Ent L w) => Great28_any (hka.suf hs) h)
  have HG2 := SL.hid (fun (L : List HProp) (w : World) (hs : l <:+ L) (h : Ent L w) => Great28_any (hkb.suf hs) h)
  unfold G28Post at HG1 HG2
  rw [h1] at HG1
  rw [h2] at HG2
  clear h1 h2 hka hkb
  have A1 := SL.hid True.intro
  cases b1 <;> cases b2
  case' false.false =>
    exfalso
    rcases hn with h | h <;> cases h
  all_goals
    clear hn
    go_enter Tryd.func5, Tryd.ntmps5
    go_wp2_with (first
      | go_skip
      | (clear A1; go_at_call 19; refine (HG1.out _ _ sfx hE).mono ?_; clear hE; rintro e w2 ⟨v, h1, h2, hE⟩; cases h1; cases h2)
      | (go_at_call 19; refine (HG2.out _ _ sfx hE).mono ?_; clear hE; rintro e w2 ⟨v, h1, h2, hE⟩; cases h1; cases h2)
      | (go_at_call 9; refine (wakes28_any hE).mono ?_; clear hE; rintro e w2 ⟨v, h1, h2, m9, hE⟩; cases h1; cases h2))
    refine bodyPost_ret (results_tmp rfl _ _ _) rfl ?_
    exact ⟨_, rfl, rfl, hE.suf sfx⟩
set_option maxRecDepth 100000 in
set_option maxHeartbeats 8000000 in
theorem comps_yes {xs ys : List Ch} (h1 : gr28 xs = false) (h2 : gr28 ys = false) {aa ab : Option Addr} {ca cb : Nat} {l : List HProp} {w : World} (hka : Knows l (reads (.slice aa xs.length ca) xs.length (xs.flatMap chC))) (hkb : Knows l (reads (.slice ab ys.length cb) ys.length (ys.flatMap chC))) (hE : Ent l w) :
    Calls Tryd.prog 5 #[.slice aa xs.length ca, .slice ab ys.length cb] w (Ret fun v w' => v = .bool true ∧ Ent l w') := by
  have HG1 := SL.hid (fun (L : List HProp) (w : World) (hs : l <:+ L) (h : Ent L w) => Great28_any (hka.suf hs) h)
  have HG2 := SL.hid (fun (L : List HProp) (w : World) (hs : l <:+ L) (h : Ent L w) => Great28_any (hkb.suf hs) h)
  unfold G28Post at HG1 HG2
  rw [h1] at HG1
  rw [h2] at HG2
  obtain ⟨l1, k1⟩ := gr28_not.1 h1
  obtain ⟨l2, k2⟩ := gr28_not.1 h2
  have q1 : ∀ x ∈ xs, x.path.length ≤ 100000 := fun x hx => by have := (k1 x hx).1; omega
  have q2 : ∀ x ∈ ys, x.path.length ≤ 100000 := fun x hx => by have := (k2 x hx).1; omega
  have hcl := cmp_len xs ys
  have hrl := rev_len xs
  have HL1 := SL.hid (fun (L : List HProp) (w : World) (a1 : Option Addr) (c1 : Nat) hk (h : Ent L w) => lOf_any (es := xs) (by omega) (ao := a1) (c := c1) hk h)
  have HL2 := SL.hid (fun (L : List HProp) (w : World) (a1 : Option Addr) (c1 : Nat) hk (h : Ent L w) => lOf_any (es := ys) (by omega) (ao := a1) (c := c1) hk h)
  have HL3 := SL.hid (fun (L : List HProp) (w : World) (a1 : Option Addr) (c1 : Nat) hk (h : Ent L w) => lOf_any (es := cmpP xs ys) (by omega) (ao := a1) (c := c1) hk h)
  have HL4 := SL.hid (fun (L : List HProp) (w : World) (a1 : Option Addr) (c1 : Nat) hk (h : Ent L w) => lOf_any (es := revP xs) (by omega) (ao := a1) (c := c1) hk h)
  have HR1 := SL.hid (fun (L : List HProp) (w : World) (a1 a2 : Option Addr) (c1 c2 : Nat) hk1 hk2 (h : Ent L w) => lRow_any (xs := cmpP xs ys) (ys := cmpP xs ys) (by omega) (ao := a1) (bo := a2) (c := c1) (d := c2) hk1 hk2 h)
  have HR2 := SL.hid (fun (L : List HProp) (w : World) (a1 a2 : Option Addr) (c1 c2 : Nat) hk1 hk2 (h : Ent L w) => lRow_any (xs := revP xs) (ys := revP xs) (by omega) (ao := a1) (bo := a2) (c := c1) (d := c2) hk1 hk2 h)
  have HC := SL.hid (fun (L : List HProp) (w : World) (a1 a2 : Option Addr) (c1 c2 : Nat) hc1 hc2 hk1 hk2 (h : Ent L w) => Compose_in (a := xs) (b := ys) (by omega) (by omega) q1 q2 (aa := a1) (ab := a2) (ca := c1) (cb := c2) hc1 hc2 (fun w' h => may_any (by omega) q1 hk1 h) (fun w' h => may_any (by omega) q2 hk2 h) hk1 hk2 h)
  have HRC := SL.hid (fun (L : List HProp) (w : World) (a1 a2 : Option Addr) (c1 c2 : Nat) hk1 hk2 (h : Ent L w) => rCompose_any (a := xs) (b := ys) (by omega) (by omega) q1 q2 (aa := a1) (ab := a2) (ca := c1) (cb := c2) hk1 hk2 h)
  have HV := SL.hid (fun (L : List HProp) (w : World) (a1 : Option Addr) (c1 : Nat) hk (h : Ent L w) => Reverse_in (es := xs) (by omega) (ao := a1) (c := c1) (fun w' h => may_any (by omega) q1 hk h) hk h)
  have HRV := SL.hid (fun (L : List HProp) (w : World) (a1 : Option Addr) (c1 : Nat) hk (h : Ent L w) => rReverse_any (es := xs) (by omega) q1 (ao := a1) (c := c1) hk h)
  unfold LrPost at HR1 HR2
  simp only [decide_true] at HR1 HR2
  unfold CmPost at HC HRC
  have KA := SL.hid hka
  have KB := SL.hid hkb
  clear h1 h2 hka hkb k1 k2 q1 q2 hcl hrl
  generalize cmpP xs ys = CP at *
  generalize cmpE xs ys = CE at *
  generalize revP xs = RP at *
  generalize revE xs = RE at *
  have A1 := SL.hid True.intro
  have B1 := SL.hid True.intro
  have B2 := SL.hid True.intro
  have B3 := SL.hid True.intro
  have B4 := SL.hid True.intro
  have B5 := SL.hid True.intro
  have C1 := SL.hid True.intro
  go_enter Tryd.func5, Tryd.ntmps5
  go_wp2_with (first
    | go_skip
    | (clear A1; go_at_call 19; refine (HG1.out _ _ sfx hE).mono ?_; clear hE; rintro e w2 ⟨v, h1, h2, hE⟩; cases h1; cases h2)
    | (go_at_call 19; refine (HG2.out _ _ sfx hE).mono ?_; clear hE; rintro e w2 ⟨v, h1, h2, hE⟩; cases h1; cases h2)
    | (clear B1; go_at_call 12; refine (HL1.out _ _ _ _ (KA.out.suf sfx) hE).mono ?_; clear hE; rintro e w2 ⟨v, h1, a5, c5, h2, hE⟩; cases h1; cases h2; have K1 := SL.hid (row_knows hE); have cK1 := SL.hid (row_capQ hE 0 rfl))
    | (clear B2; go_at_call 12; refine (HL2.out _ _ _ _ (KB.out.suf sfx) hE).mono ?_; clear hE; rintro e w2 ⟨v, h1, a5, c5, h2, hE⟩; cases h1; cases h2; have K2 := SL.hid (row_knows hE); have cK2 := SL.hid (row_capQ hE 0 rfl))
    | (clear B3; go_at_call 12; refine (HL1.out _ _ _ _ (KA.out.suf sfx) hE).mono ?_; clear hE; rintro e w2 ⟨v, h1, a5, c5, h2, hE⟩; cases h1; cases h2; have K3 := SL.hid (row_knows hE); have cK3 := SL.hid (row_capQ hE 0 rfl))
    | (clear B4; go_at_call 12; refine (HL3.out _ _ _ _ (KRC.out.suf sfx) hE).mono ?_; clear hE; rintro e w2 ⟨v, h1, a5, c5, h2, hE⟩; cases h1; cases h2; have K4 := SL.hid (row_knows hE); have cK4 := SL.hid (row_capQ hE 0 rfl))
    | (clear B5; go_at_call 12; refine (HL4.out _ _ _ _ (KRV.out.suf sfx) hE).mono ?_; clear hE; rintro e w2 ⟨v, h1, a5, c5, h2, hE⟩; cases h1; cases h2; have K5 := SL.hid (row_knows hE); have cK5 := SL.hid (row_capQ hE 0 rfl))
    | (go_at_call 24; refine (HC.out _ _ _ _ _ _ cK1.out cK2.out (K1.out.suf sfx) (K2.out.suf sfx) hE).mono ?_; clear hE; rintro e w2 ⟨v, h1, a6, c6, m6, h2, hE⟩; cases h1; cases h2; have KC := SL.hid (row_knows hE))
    | (go_at_call 25; refine (HRC.out _ _ _ _ _ _ (KA.out.suf sfx) (KB.out.suf sfx) hE).mono ?_; clear hE; rintro e w2 ⟨v, h1, a7, c7, m7, h2, hE⟩; cases h1; cases h2; have KRC := SL.hid (rowRc_knows hE))
    | (go_at_call 26; refine (HV.out _ _ _ _ (K3.out.suf sfx) hE).mono ?_; clear hE; rintro e w2 ⟨v, h1, a8, c8, h2, hE⟩; cases h1; cases h2; have KV := SL.hid (row_knows hE))
    | (go_at_call 27; refine (HRV.out _ _ _ _ (KA.out.suf sfx) hE).mono ?_; clear hE; rintro e w2 ⟨v, h1, a9, c9, h2, hE⟩; cases h1; cases h2; have KRV := SL.hid (rowRc_knows hE))
    | (clear C1; go_at_call 10; refine (HR1.out _ _ _ _ _ _ (KC.out.suf sfx) (K4.out.suf sfx) hE).mono ?_; clear hE; rintro e w2 ⟨v, h1, h2, hE⟩; cases h1; cases h2)
    | (go_at_call 10; refine (HR2.out _ _ _ _ _ _ (KV.out.suf sfx) (K5.out.suf sfx) hE).mono ?_; clear hE; rintro e w2 ⟨v, h1, h2, hE⟩; cases h1; cases h2)
    | (go_at_call 9; refine (wakes28_any hE).mono ?_; clear hE; rintro e w2 ⟨v, h1, h2, m9, hE⟩; cases h1; cases h2))
  refine bodyPost_ret (results_tmp rfl _ _ _) rfl ?_
  exact ⟨_, rfl, rfl, hE.suf sfx⟩
theorem DiffComposes_any {xs ys : List Ch} {aa ab : Option Addr} {ca cb : Nat} {l : List HProp} {w : World} (hka : Knows l (reads (.slice aa xs.length ca) xs.length (xs.flatMap chC))) (hkb : Knows l (reads (.slice ab ys.length cb) ys.length (ys.flatMap chC))) (hE : Ent l w) :
    Calls Tryd.prog 5 #[.slice aa xs.length ca, .slice ab ys.length cb] w (Ret fun v w' => v = .bool true ∧ Ent l w') := by
  cases h1 : gr28 xs with
  | true => exact comps_not h1 rfl (.inl rfl) hka hkb hE
  | false =>
    cases h2 : gr28 ys with
    | true => exact comps_not rfl h2 (.inr rfl) hka hkb hE
    | false => exact comps_yes h1 h2 hka hkb hE
theorem DiffComposes_in {xs ys : List Ch} {aa ab : Option Addr} {ca cb : Nat} {W : World} (hka : Knows [rest W fun _ => False] (reads (.slice aa xs.length ca) xs.length (xs.flatMap chC))) (hkb : Knows [rest W fun _ => False] (reads (.slice ab ys.length cb) ys.length (ys.flatMap chC))) :
    Calls Tryd.prog 5 #[.slice aa xs.length ca, .slice ab ys.length cb] W (Ret fun v w' => v = .bool true ∧ Ent [rest W fun _ => False] w') :=
  DiffComposes_any hka hkb (Ent.start W)
end Go.Proofs.YtcpgelpajppgdaaDoor
namespace Go.Proofs.YtcpgelpajppgdaaDoor
open Go.RowKit Go.SL Go.ChangeShapes Go.WideShapes Go.Deep

set_option maxRecDepth 100000 in
theorem open_ens {H : Type} {enc : TypeId × Value → H} {w : World} {held : Bool} {r : Reach} {b0 : Nat} {v : Value} {d : DataW H} {ps : List MemPlace}
    (hval : Value.okWide Tryd.prog w r b0 22 v) (h : DataW.Trod enc Tryd.prog w 0 (fun _ => true) held 22 v d ps) :
    ∃ (ao : Option Addr) (c : Nat) (xs : List En), v = .slice ao xs.length c ∧ xs.length ≤ c ∧ c ≤ maxLen ∧ (∀ x ∈ xs, True) ∧ reads v xs.length (xs.flatMap enC) w :=
  open_row Tryd.underlying22 enC (fun _ => True) enC_len (by omega) (by kernel_rfl) hval h (fun m cs y hl hy => by
    obtain ⟨ys, n, _, _, _, hyl, hg⟩ := DataW.trod_struct Tryd.underlying63 hy
    match cs, hl with
    | [c0, c1, c2], _ =>
      have g0 := hg 0 _ rfl
      have g1 := hg 1 _ rfl
      have g2 := hg 2 _ rfl
      match ys, hyl with
      | [y0, y1, y2], _ =>
        obtain ⟨a, q0, _, _⟩ := DataW.trod_string Tryd.underlying9 (show DataW.trod enc Tryd.prog w 0 (fun _ => true) held n 9 [c0] = some y0 from g0)
        obtain ⟨b, q1, _⟩ := DataW.trod_bool Tryd.underlying4 (show DataW.trod enc Tryd.prog w 0 (fun _ => true) held n 4 [c1] = some y1 from g1)
        obtain ⟨c, q2, _, _⟩ := DataW.trod_string Tryd.underlying9 (show DataW.trod enc Tryd.prog w 0 (fun _ => true) held n 9 [c2] = some y2 from g2)
        simp only [List.cons.injEq, and_true] at q0 q1 q2
        subst q0 q1 q2
        exact ⟨⟨a.data.toList, b, c.data.toList⟩, trivial, rfl⟩)
set_option maxRecDepth 100000 in
theorem open_rcs {H : Type} {enc : TypeId × Value → H} {w : World} {held : Bool} {r : Reach} {b0 : Nat} {v : Value} {d : DataW H} {ps : List MemPlace}
    (hval : Value.okWide Tryd.prog w r b0 33 v) (h : DataW.Trod enc Tryd.prog w 0 (fun _ => true) held 33 v d ps) :
    ∃ (ao : Option Addr) (c : Nat) (xs : List Ch), v = .slice ao xs.length c ∧ xs.length ≤ c ∧ c ≤ maxLen ∧ (∀ x ∈ xs, True) ∧ reads v xs.length (xs.flatMap chC) w :=
  open_row Tryd.underlying33 chC (fun _ => True) chC_len (by omega) (by kernel_rfl) hval h (fun m cs y hl hy => by
    obtain ⟨ys, n, _, _, _, hyl, hg⟩ := DataW.trod_struct Tryd.underlying74 hy
    match cs, hl with
    | [c0, c1, c2, c3, c4, c5, c6], _ =>
      have g0 := hg 0 _ rfl
      have g1 := hg 1 _ rfl
      have g2 := hg 2 _ rfl
      match ys, hyl with
      | [y0, y1, y2], _ =>
        obtain ⟨a, q0, _, _⟩ := DataW.trod_string Tryd.underlying9 (show DataW.trod enc Tryd.prog w 0 (fun _ => true) held n 9 [c0] = some y0 from g0)
        obtain ⟨zs1, n1, _, _, _, hzl1, hz1⟩ := DataW.trod_struct Tryd.underlying39 (show DataW.trod enc Tryd.prog w 0 (fun _ => true) held n 39 [c1, c2, c3] = some y1 from g1)
        have z10 := hz1 0 _ rfl
        have z11 := hz1 1 _ rfl
        have z12 := hz1 2 _ rfl
        match zs1, hzl1 with
        | [u10, u11, u12], _ =>
        obtain ⟨t1, r10, _⟩ := DataW.trod_bool Tryd.underlying4 (show DataW.trod enc Tryd.prog w 0 (fun _ => true) held n1 4 [c1] = some u10 from z10)
        obtain ⟨d1, r11, _⟩ := DataW.trod_bool Tryd.underlying4 (show DataW.trod enc Tryd.prog w 0 (fun _ => true) held n1 4 [c2] = some u11 from z11)
        obtain ⟨s1, r12, _, _⟩ := DataW.trod_string Tryd.underlying9 (show DataW.trod enc Tryd.prog w 0 (fun _ => true) held n1 9 [c3] = some u12 from z12)
        obtain ⟨zs2, n2, _, _, _, hzl2, hz2⟩ := DataW.trod_struct Tryd.underlying39 (show DataW.trod enc Tryd.prog w 0 (fun _ => true) held n 39 [c4, c5, c6] = some y2 from g2)
        have z20 := hz2 0 _ rfl
        have z21 := hz2 1 _ rfl
        have z22 := hz2 2 _ rfl
        match zs2, hzl2 with
        | [u20, u21, u22], _ =>
        obtain ⟨t2, r20, _⟩ := DataW.trod_bool Tryd.underlying4 (show DataW.trod enc Tryd.prog w 0 (fun _ => true) held n2 4 [c4] = some u20 from z20)
        obtain ⟨d2, r21, _⟩ := DataW.trod_bool Tryd.underlying4 (show DataW.trod enc Tryd.prog w 0 (fun _ => true) held n2 4 [c5] = some u21 from z21)
        obtain ⟨s2, r22, _, _⟩ := DataW.trod_string Tryd.underlying9 (show DataW.trod enc Tryd.prog w 0 (fun _ => true) held n2 9 [c6] = some u22 from z22)
        simp only [List.cons.injEq, and_true] at q0 r10 r11 r12 r20 r21 r22
        subst q0 r10 r11 r12 r20 r21 r22
        exact ⟨⟨a.data.toList, ⟨t1, d1, s1.data.toList⟩, ⟨t2, d2, s2.data.toList⟩⟩, trivial, rfl⟩)
end Go.Proofs.YtcpgelpajppgdaaDoor
