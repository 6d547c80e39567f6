/-
  The document's Build.
-/
import Derived.Test.YtjmllpgmbaoebaaDoorManQF5
namespace Go.SL
theorem Ent.swap {a b c : List HProp} {w : World} (h : Ent (a ++ (b ++ c)) w) : Ent (b ++ (a ++ c)) w := h.perm (by rw [← List.append_assoc, ← List.append_assoc]; exact List.perm_append_comm.append_right c)
end Go.SL
namespace Go.Proofs.YtjmllpgmbaoebaaDoor
open Go.RowKit Go.SL

theorem add_nodup {L : List En} {x : En} (hn : (L.map En.path).Nodup) (h : addE L x = 0) : ((L ++ [x]).map En.path).Nodup := by
  have hh : hasD L x.path = false := by
    rw [addE] at h
    split at h
    · rename_i h1; exact absurd h h1
    · split at h
      · cases h
      · rename_i h2
        cases hx : hasD L x.path with
        | false => rfl
        | true => exact absurd (.inr (.inr (.inl hx))) h2
  rw [List.map_append, List.nodup_append]
  refine ⟨hn, by simp, ?_⟩
  intro a ha b hb e
  subst e
  simp only [List.map_cons, List.map_nil, List.mem_singleton] at hb
  subst hb
  obtain ⟨y, hy, hp⟩ := List.mem_map.1 ha
  rw [hasD, List.any_eq_false] at hh
  exact hh y hy (by simpa using hp)
def BdPost (es : List En) (l : List HProp) (v : Value) (w' : World) : Prop :=
  ∃ (m : List HProp) (a : Option Addr) (c : Nat), v = .tuple #[.agg #[.slice a (buildD es).2.length c], .int .i64 (buildD es).1] ∧ Ent (m ++ l) w' ∧ Knows (m ++ l) (reads (.slice a (buildD es).2.length c) (buildD es).2.length ((buildD es).2.flatMap enC))
def BdRel (es : List En) (b2 b4 : Nat) (l : List HProp) (i : Value) (wr : World) : Prop :=
  ∃ (k : Nat) (m : List HProp) (a : Option Addr) (c : Nat) (L : List En), k ≤ es.length ∧ i = .int .i64 k ∧ L = es.take k ∧ buildD es = goD L (es.drop k) ∧ (L.map En.path).Nodup ∧
    Knows (m ++ l) (reads (.slice a L.length c) L.length (L.flatMap enC)) ∧
    Ent (pt b4 (.cells #[.slice a L.length c] 33) :: pt b2 (.cells #[.slice none 0 0] 33) :: (m ++ l)) wr
set_option maxRecDepth 100000 in
set_option maxHeartbeats 8000000 in
attribute [-go_sem] Instr.loadAt in
theorem rBuild_any {es : List En} (hn : es.length ≤ 1000) (hb : ∀ x ∈ es, x.path.length ≤ 1000000 ∧ x.data.length ≤ 1000000) {ao : Option Addr} {c : Nat} {l : List HProp} {w : World} (hk : Knows l (reads (.slice ao es.length c) es.length (es.flatMap enC))) (hE : Ent l w) :
    Calls Tryd.prog 11 #[.slice ao es.length c] w (Ret (BdPost es l)) := by
  cases h64 : decide ((64 : Int) < (es.length : Int)) with
  | true =>
    have hT : buildD es = (6, []) := by rw [buildD, if_pos (by have := of_decide_eq_true h64; omega)]
    have HT := SL.hid hT
    clear hT
    go_enter Tryd.func11, Tryd.ntmps11
    go_wp2_with (first
      | go_skip
      | ((with_reducible (show Go.wpList _ _ _ (Go.Oper.mk _ (.alloc _) _ _ _ _ :: _) _ _)); refine wpl_alloc hE rfl rfl (by simp [go_sem]; rfl) ?_; clear hE; intro b2 w hE; simp only [Act.eval, Act.put, List.setIfInBounds_toArray, List.set_cons_zero, List.set_cons_succ, getD_lit, List.getD_cons_succ, List.getD_cons_zero, Value.cells] at hE)
      | ((with_reducible (show Go.wpList _ _ _ (Go.Oper.mk _ (.store 33 _ _) _ _ _ _ :: _) _ _)); (first | (refine wpl_storeW hE 0 rfl rfl rfl (xs := [.slice none 0 0]) rfl rfl Tryd.sizeOf33 rfl (by simp [Value.oneCell']) rfl ?_) | (refine wpl_storeW hE 1 rfl rfl rfl (xs := [.slice none 0 0]) rfl rfl Tryd.sizeOf33 rfl (by simp [Value.oneCell']) rfl ?_) | (refine wpl_storeW hE 2 rfl rfl rfl (xs := [.slice none 0 0]) rfl rfl Tryd.sizeOf33 rfl (by simp [Value.oneCell']) rfl ?_) | (refine wpl_storeW hE 3 rfl rfl rfl (xs := [.slice none 0 0]) rfl rfl Tryd.sizeOf33 rfl (by simp [Value.oneCell']) rfl ?_) | (refine wpl_storeW hE 4 rfl rfl rfl (xs := [.slice none 0 0]) rfl rfl Tryd.sizeOf33 rfl (by simp [Value.oneCell']) rfl ?_) | (refine wpl_storeW hE 5 rfl rfl rfl (xs := [.slice none 0 0]) rfl rfl Tryd.sizeOf33 rfl (by simp [Value.oneCell']) rfl ?_) | (refine wpl_storeW hE 6 rfl rfl rfl (xs := [.slice none 0 0]) rfl rfl Tryd.sizeOf33 rfl (by simp [Value.oneCell']) rfl ?_) | (refine wpl_storeW hE 7 rfl rfl rfl (xs := [.slice none 0 0]) rfl rfl Tryd.sizeOf33 rfl (by simp [Value.oneCell']) rfl ?_)); clear hE; intro w hE; simp only [List.set_cons_zero, List.set_cons_succ] at hE))
    refine bodyPost_ret (results_cell2 rfl hE 0 rfl rfl Tryd.isAgg33 Tryd.sizeOf33 rfl rfl) rfl ?_
    refine ⟨_, rfl, [_], none, 0, ?_, hE, ?_⟩
    · rw [HT.out]; rfl
    · rw [HT.out]; exact fun _ _ => reads_nil 0 0 rfl _
  | false =>
    have HT0 := SL.hid (show buildD es = goD [] es by rw [buildD, if_neg (by have := of_decide_eq_false h64; omega)])
    have Tok := SL.hid True.intro
    go_enter Tryd.func11, Tryd.ntmps11
    go_wp2_with (first
      | go_skip
      | ((with_reducible (show Go.wpList _ _ _ (Go.Oper.mk _ (.alloc _) _ _ _ _ :: _) _ _)); clear Tok; ((with_reducible (show Go.wpList _ _ _ (Go.Oper.mk _ (.alloc _) _ _ _ _ :: _) _ _)); refine wpl_alloc hE rfl rfl (by simp [go_sem]; rfl) ?_; clear hE; intro b2 w hE; simp only [Act.eval, Act.put, List.setIfInBounds_toArray, List.set_cons_zero, List.set_cons_succ, getD_lit, List.getD_cons_succ, List.getD_cons_zero, Value.cells] at hE))
      | ((with_reducible (show Go.wpList _ _ _ (Go.Oper.mk _ (.alloc _) _ _ _ _ :: _) _ _)); refine wpl_alloc hE rfl rfl (by simp [go_sem]; rfl) ?_; clear hE; intro b4 w hE; simp only [Act.eval, Act.put, List.setIfInBounds_toArray, List.set_cons_zero, List.set_cons_succ, getD_lit, List.getD_cons_succ, List.getD_cons_zero, Value.cells] at hE))
    clear h64
    go_loopw [5] (fun i wr => BdRel es b2 b4 l i wr) (fun i _ => es.length - (intOf i).toNat)
    case atStart => exact ⟨0, [], none, 0, [], Nat.zero_le _, rfl, rfl, HT0.out, by simp, fun _ _ => reads_nil 0 0 rfl _, hE⟩
    case round =>
      clear hE HT0
      obtain ⟨k, m, a, ca, L, hkn, rfl, hL, hB, hnd, hkL, hE⟩ := hrel
      by_cases hlt : k < es.length
      · obtain ⟨b, off, rfl, hz⟩ := en_at (hk _ hE.tail.tail.drop) hlt
        clear hz
        have f0 := SL.hid (show ∀ w, Ent l w → _ from fun w h => (load_en (hk w h) hlt).1)
        have hx := hb _ (List.getElem_mem hlt)
        have Htk := SL.hid (show es.take (k + 1) = L ++ [es[k]] from by rw [hL]; exact List.take_succ_eq_append_getElem hlt)
        have hdk : es.drop k = es[k] :: es.drop (k + 1) := List.drop_eq_getElem_cons hlt
        rw [hdk, goD] at hB
        have HB := SL.hid hB
        have hLl : L.length ≤ 1000 := by rw [hL, List.length_take]; omega
        have hLb : ∀ x ∈ L, x.path.length ≤ 1000000 := fun x hx => (hb x (List.mem_of_mem_take (hL ▸ hx))).1
        have HN := SL.hid (fun (h : addE L es[k] = 0) => add_nodup (x := es[k]) hnd h)
        have HAd := SL.hid (fun (F : List HProp) (w : World) (h : Ent (F ++ (m ++ l)) w) => add_any (xp := es[k].path) (xd := es[k].dir) (xb := es[k].data) hLl hLb hnd hx.1 hx.2 (hkL.append (m := F)) h)
        have HkL := SL.hid hkL
        clear hB hdk hx hL hLb hnd hkL
        generalize es[k] = x at *
        obtain ⟨xp, xd, xb⟩ := x
        simp only at f0 HAd
        have HAd2 := SL.hid (fun (F : List HProp) (w : World) (h : Ent (F ++ (m ++ l)) w) =>
          show Calls Tryd.prog 30 #[.agg #[.slice a L.length ca], .agg #[.string ⟨xp.toArray⟩, .bool xd, .string ⟨xb.toArray⟩]] w (Ret fun v w' => ∃ (m2 : List HProp) (a2 : Option Addr) (c2 : Nat), v = .tuple #[.agg #[.slice a2 (addL L ⟨xp, xd, xb⟩).length c2], .int .i64 (addE L ⟨xp, xd, xb⟩)] ∧ Ent (F ++ (m2 ++ (m ++ l))) w' ∧
            Knows (m2 ++ (m ++ l)) (reads (.slice a2 (addL L ⟨xp, xd, xb⟩).length c2) (addL L ⟨xp, xd, xb⟩).length ((addL L ⟨xp, xd, xb⟩).flatMap enC))) from by
            refine (HAd.out F w h).mono ?_
            rintro e w' ⟨v, rfl, m2, a2, c2, rfl, h1, h2⟩
            exact ⟨_, rfl, m2, a2, c2, rfl, h1.swap, h2 _ HkL.out⟩)
        have HL2 := SL.hid (show addE L ⟨xp, xd, xb⟩ = 0 → addL L ⟨xp, xd, xb⟩ = L ++ [⟨xp, xd, xb⟩] from fun h => by rw [addL, if_pos h])
        clear HAd
        generalize addE L ⟨xp, xd, xb⟩ = er at *
        generalize addL L ⟨xp, xd, xb⟩ = L2 at *
        go_wp2
        refine wp_region_held_drew (S := (fun w' => ((Instr.loadAt 33 (.pointer (some ⟨b4, 0, none⟩))).run Tryd.prog w' = .ok (.agg [.slice a L.length ca].toArray) w') ∧ ((Instr.loadAt 41 (.pointer (some ⟨b, off + k * 3, none⟩))).run Tryd.prog w' = .ok (.agg #[.string ⟨xp.toArray⟩, .bool xd, .string ⟨xb.toArray⟩]) w'))) (by kernel_rfl) ⟨(atWm hE.drew (by repeat (first | exact List.Mem.head _ | refine List.Mem.tail _ ?_)) Tryd.isAgg33 Tryd.sizeOf33 rfl), (f0.out _ (by first | exact (hE.drew.tail.tail).drop | exact hE.drew.tail.tail.tail.drop | exact hE.drew.tail.tail.drop.drop | exact hE.drew.tail.tail.tail.drop.drop))⟩ (fun hS => ?_)
        refine takeW 0 ⟨some 19, .load 33 (.tmp 4), 33, "ref.go:71", #[], none⟩ ?_ (.inl ⟨by rfl, ?_⟩) hS ?_
        rotate_left
        · (intro w hSw; (try dsimp only at hSw); go_simp; (try with_reducible rfl))
        try simp only [Act.put, sb, s0, sz]
        refine takeW 1 ⟨some 20, .move (.tmp 0), 22, "ref.go:71", #[], none⟩ ?_ (.inl ⟨by rfl, ?_⟩) hS ?_
        rotate_left
        · (intro w hSw; (try dsimp only at hSw); go_simp; (try with_reducible rfl))
        try simp only [Act.put, sb, s0, sz]
        refine takeW 2 ⟨some 21, .move (.tmp 5), 3, "ref.go:71", #[], none⟩ ?_ (.inl ⟨by rfl, ?_⟩) hS ?_
        rotate_left
        · (intro w hSw; (try dsimp only at hSw); go_simp; (try with_reducible rfl))
        try simp only [Act.put, sb, s0, sz]
        refine takeW 3 ⟨some 22, .indexAddr 22 (.tmp 20) (.tmp 21), 0, "ref.go:71", #[⟨1, .data⟩, ⟨2, .data⟩], none⟩ ?_ (.inl ⟨by rfl, ?_⟩) hS ?_
        rotate_left
        · (intro w hSw; (try dsimp only at hSw); go_simp; (try with_reducible rfl))
        try simp only [Act.put, sb, s0, sz]
        refine takeW 4 ⟨some 23, .load 41 (.tmp 22), 41, "ref.go:71", #[⟨3, .data⟩], none⟩ ?_ (.inl ⟨by rfl, ?_⟩) hS ?_
        rotate_left
        · (intro w hSw; (try dsimp only at hSw); go_simp; (try with_reducible rfl))
        try simp only [Act.put, sb, s0, sz]
        refine wpAnyH_ready (rs := [5, 9]) (by kernel_rfl) (by simp) ?_
        refine (AllReadyH.cons (o := { dst := some 24, op := Go.Op.call { callee := Go.Callee.value (Go.Operand.func 30), args := #[Go.Operand.tmp 19, Go.Operand.tmp 23], argTypes := #[33, 41] }, type := 34, pos := "ref.go:71", after := #[{ on := 0, ground := Go.Ground.data }, { on := 4, ground := Go.Ground.data }], guard := none }) rfl (fun K hK => ?_) (AllReadyH.cons (o := { dst := some 6, op := Go.Op.alloc 33, type := 0, pos := "ref.go:71", after := #[], guard := none }) rfl (fun K hK => ?_) AllReadyH.nil))
        focus
          (go_simp; (first | have H := HAd2.out [_, _, _] _ hAl | have H := HAd2.out [_, _] _ hE.drew); refine H.mono ?_; clear H; rintro e w3 ⟨v, rfl, m2, a2, c2, rfl, hA, hK2⟩; simp only [List.cons_append, List.nil_append] at hA)
          refine hK.out _ _ ⟨(atWm hA (by repeat (first | exact List.Mem.head _ | refine List.Mem.tail _ ?_)) Tryd.isAgg33 Tryd.sizeOf33 rfl), (f0.out _ (by first | exact (hA.tail.tail).drop | exact hA.tail.tail.tail.drop | exact hA.tail.tail.drop.drop | exact hA.tail.tail.tail.drop.drop))⟩ (fun hS => ?_)
          clear hK K
          try simp only [Act.put, sb, s0, sz]
          refine takeW 6 ⟨some 18, .move (.tmp 24), 34, "ref.go:71", #[⟨5, .data⟩], none⟩ ?_ (.inl ⟨by rfl, ?_⟩) hS ?_
          rotate_left
          · (intro w hSw; (try dsimp only at hSw); go_simp; (try with_reducible rfl))
          try simp only [Act.put, sb, s0, sz]
          refine takeW 7 ⟨some 25, .extract (.tmp 18) 0, 33, "ref.go:71", #[⟨6, .data⟩], none⟩ ?_ (.inl ⟨by rfl, ?_⟩) hS ?_
          rotate_left
          · (intro w hSw; (try dsimp only at hSw); go_simp; (try with_reducible rfl))
          try simp only [Act.put, sb, s0, sz]
          refine takeW 8 ⟨some 26, .extract (.tmp 18) 1, 29, "ref.go:71", #[⟨6, .data⟩, { on := 10, ground := Go.Ground.gcOnly Go.Departure.lateStores }], none⟩ ?_ (.inl ⟨by rfl, ?_⟩) hS ?_
          rotate_left
          · (intro w hSw; (try dsimp only at hSw); go_simp; (try with_reducible rfl))
          try simp only [Act.put, sb, s0, sz]
          refine wpAnyH_ready (rs := [9]) (by kernel_rfl) (by simp) ?_
          refine (AllReadyH.cons (o := { dst := some 6, op := Go.Op.alloc 33, type := 0, pos := "ref.go:71", after := #[], guard := none }) rfl (fun K hK => ?_) AllReadyH.nil)
          (go_simp; (first | have hAl := hA.alloc (.cells #[.slice none 0 0] 33) | have hAl := hE.drew.alloc (.cells #[.slice none 0 0] 33)))
          refine hK.out _ _ ⟨(atWm hAl (by repeat (first | exact List.Mem.head _ | refine List.Mem.tail _ ?_)) Tryd.isAgg33 Tryd.sizeOf33 rfl), (f0.out _ (by first | exact (hAl.tail.tail).drop | exact hAl.tail.tail.tail.drop | exact hAl.tail.tail.drop.drop | exact hAl.tail.tail.tail.drop.drop))⟩ (fun hS => ?_)
          clear hK K
          try simp only [Act.put, sb, s0, sz]
          refine wpAnyH_ready (rs := [10]) (by kernel_rfl) (by simp) ?_
          refine (AllReadyH.cons (o := { dst := none, op := Go.Op.store 33 (Go.Operand.tmp 6) (Go.Operand.tmp 25), type := 0, pos := "ref.go:71", after := #[{ on := 9, ground := Go.Ground.data }, { on := 7, ground := Go.Ground.data }, { on := 5, ground := Go.Ground.chain }, { on := 0, ground := Go.Ground.phase }, { on := 1, ground := Go.Ground.phase }, { on := 2, ground := Go.Ground.phase }, { on := 3, ground := Go.Ground.phase }, { on := 4, ground := Go.Ground.phase }, { on := 5, ground := Go.Ground.phase }, { on := 6, ground := Go.Ground.phase }, { on := 7, ground := Go.Ground.phase }, { on := 8, ground := Go.Ground.textOnly Go.Departure.lateStores }, { on := 9, ground := Go.Ground.phase }], guard := none }) rfl (fun K hK => ?_) AllReadyH.nil)
          ((first | refine step_storeW hAl 0 rfl (by rfl) (by rfl) (by rfl) (xs := [.slice a2 L2.length c2]) (by rfl) Tryd.sizeOf33 rfl (by simp [Value.oneCell']) rfl ?_ | refine step_storeW hA 0 rfl (by rfl) (by rfl) (by rfl) (xs := [.slice a2 L2.length c2]) (by rfl) Tryd.sizeOf33 rfl (by simp [Value.oneCell']) rfl ?_); intro w7 hEs; simp only [List.set_cons_zero, List.set_cons_succ] at hEs)
          refine hK.out _ _ ⟨(atWm hEs (by repeat (first | exact List.Mem.head _ | refine List.Mem.tail _ ?_)) Tryd.isAgg33 Tryd.sizeOf33 rfl), (f0.out _ (by first | exact (hEs.tail.tail).drop | exact hEs.tail.tail.tail.drop | exact hEs.tail.tail.drop.drop | exact hEs.tail.tail.tail.drop.drop))⟩ (fun hS => ?_)
          clear hK K
          try simp only [Act.put, sb, s0, sz]
          refine takeW 11 ⟨some 7, .assign (.tmp 26), 29, "ref.go:71", #[⟨8, .data⟩, ⟨10, .chain⟩, ⟨0, .phase⟩, ⟨1, .phase⟩, ⟨2, .phase⟩, ⟨3, .phase⟩, ⟨4, .phase⟩, ⟨5, .phase⟩, ⟨6, .phase⟩, ⟨7, .phase⟩, ⟨8, .phase⟩, ⟨9, .phase⟩, ⟨10, .phase⟩], none⟩ ?_ (.inl ⟨by rfl, ?_⟩) hS ?_
          rotate_left
          · (intro w hSw; (try dsimp only at hSw); go_simp; (try with_reducible rfl))
          try simp only [Act.put, sb, s0, sz]
          refine wpAnyH_done (by kernel_rfl) ?_ _
        rotate_right
        focus
          (go_simp; (first | have hAl := hA.alloc (.cells #[.slice none 0 0] 33) | have hAl := hE.drew.alloc (.cells #[.slice none 0 0] 33)))
          refine hK.out _ _ ⟨(atWm hAl (by repeat (first | exact List.Mem.head _ | refine List.Mem.tail _ ?_)) Tryd.isAgg33 Tryd.sizeOf33 rfl), (f0.out _ (by first | exact (hAl.tail.tail).drop | exact hAl.tail.tail.tail.drop | exact hAl.tail.tail.drop.drop | exact hAl.tail.tail.tail.drop.drop))⟩ (fun hS => ?_)
          clear hK K
          try simp only [Act.put, sb, s0, sz]
          refine wpAnyH_ready (rs := [5]) (by kernel_rfl) (by simp) ?_
          refine (AllReadyH.cons (o := { dst := some 24, op := Go.Op.call { callee := Go.Callee.value (Go.Operand.func 30), args := #[Go.Operand.tmp 19, Go.Operand.tmp 23], argTypes := #[33, 41] }, type := 34, pos := "ref.go:71", after := #[{ on := 0, ground := Go.Ground.data }, { on := 4, ground := Go.Ground.data }], guard := none }) rfl (fun K hK => ?_) AllReadyH.nil)
          (go_simp; (first | have H := HAd2.out [_, _, _] _ hAl | have H := HAd2.out [_, _] _ hE.drew); refine H.mono ?_; clear H; rintro e w3 ⟨v, rfl, m2, a2, c2, rfl, hA, hK2⟩; simp only [List.cons_append, List.nil_append] at hA)
          refine hK.out _ _ ⟨(atWm hA (by repeat (first | exact List.Mem.head _ | refine List.Mem.tail _ ?_)) Tryd.isAgg33 Tryd.sizeOf33 rfl), (f0.out _ (by first | exact (hA.tail.tail).drop | exact hA.tail.tail.tail.drop | exact hA.tail.tail.drop.drop | exact hA.tail.tail.tail.drop.drop))⟩ (fun hS => ?_)
          clear hK K
          try simp only [Act.put, sb, s0, sz]
          refine takeW 6 ⟨some 18, .move (.tmp 24), 34, "ref.go:71", #[⟨5, .data⟩], none⟩ ?_ (.inl ⟨by rfl, ?_⟩) hS ?_
          rotate_left
          · (intro w hSw; (try dsimp only at hSw); go_simp; (try with_reducible rfl))
          try simp only [Act.put, sb, s0, sz]
          refine takeW 7 ⟨some 25, .extract (.tmp 18) 0, 33, "ref.go:71", #[⟨6, .data⟩], none⟩ ?_ (.inl ⟨by rfl, ?_⟩) hS ?_
          rotate_left
          · (intro w hSw; (try dsimp only at hSw); go_simp; (try with_reducible rfl))
          try simp only [Act.put, sb, s0, sz]
          refine takeW 8 ⟨some 26, .extract (.tmp 18) 1, 29, "ref.go:71", #[⟨6, .data⟩, { on := 10, ground := Go.Ground.gcOnly Go.Departure.lateStores }], none⟩ ?_ (.inl ⟨by rfl, ?_⟩) hS ?_
          rotate_left
          · (intro w hSw; (try dsimp only at hSw); go_simp; (try with_reducible rfl))
          try simp only [Act.put, sb, s0, sz]
          refine wpAnyH_ready (rs := [10]) (by kernel_rfl) (by simp) ?_
          refine (AllReadyH.cons (o := { dst := none, op := Go.Op.store 33 (Go.Operand.tmp 6) (Go.Operand.tmp 25), type := 0, pos := "ref.go:71", after := #[{ on := 9, ground := Go.Ground.data }, { on := 7, ground := Go.Ground.data }, { on := 5, ground := Go.Ground.chain }, { on := 0, ground := Go.Ground.phase }, { on := 1, ground := Go.Ground.phase }, { on := 2, ground := Go.Ground.phase }, { on := 3, ground := Go.Ground.phase }, { on := 4, ground := Go.Ground.phase }, { on := 5, ground := Go.Ground.phase }, { on := 6, ground := Go.Ground.phase }, { on := 7, ground := Go.Ground.phase }, { on := 8, ground := Go.Ground.textOnly Go.Departure.lateStores }, { on := 9, ground := Go.Ground.phase }], guard := none }) rfl (fun K hK => ?_) AllReadyH.nil)
          ((first | refine step_storeW hAl 0 rfl (by rfl) (by rfl) (by rfl) (xs := [.slice a2 L2.length c2]) (by rfl) Tryd.sizeOf33 rfl (by simp [Value.oneCell']) rfl ?_ | refine step_storeW hA 0 rfl (by rfl) (by rfl) (by rfl) (xs := [.slice a2 L2.length c2]) (by rfl) Tryd.sizeOf33 rfl (by simp [Value.oneCell']) rfl ?_); intro w7 hEs; simp only [List.set_cons_zero, List.set_cons_succ] at hEs)
          refine hK.out _ _ ⟨(atWm hEs (by repeat (first | exact List.Mem.head _ | refine List.Mem.tail _ ?_)) Tryd.isAgg33 Tryd.sizeOf33 rfl), (f0.out _ (by first | exact (hEs.tail.tail).drop | exact hEs.tail.tail.tail.drop | exact hEs.tail.tail.drop.drop | exact hEs.tail.tail.tail.drop.drop))⟩ (fun hS => ?_)
          clear hK K
          try simp only [Act.put, sb, s0, sz]
          refine takeW 11 ⟨some 7, .assign (.tmp 26), 29, "ref.go:71", #[⟨8, .data⟩, ⟨10, .chain⟩, ⟨0, .phase⟩, ⟨1, .phase⟩, ⟨2, .phase⟩, ⟨3, .phase⟩, ⟨4, .phase⟩, ⟨5, .phase⟩, ⟨6, .phase⟩, ⟨7, .phase⟩, ⟨8, .phase⟩, ⟨9, .phase⟩, ⟨10, .phase⟩], none⟩ ?_ (.inl ⟨by rfl, ?_⟩) hS ?_
          rotate_left
          · (intro w hSw; (try dsimp only at hSw); go_simp; (try with_reducible rfl))
          try simp only [Act.put, sb, s0, sz]
          refine wpAnyH_done (by kernel_rfl) ?_ _
        all_goals
          first
            | (replace hE : Ent (pt wr.heap.size (.cells #[.slice a2 L2.length c2] 33) :: pt b4 (.cells #[.slice a L.length ca] 33) :: pt b2 (.cells #[.slice none 0 0] 33) :: (m2 ++ (m ++ l))) w7 := hEs; generalize wr.heap.size = b6 at *)
            | (replace hE : Ent (pt w3.heap.size (.cells #[.slice a2 L2.length c2] 33) :: pt b4 (.cells #[.slice a L.length ca] 33) :: pt b2 (.cells #[.slice none 0 0] 33) :: (m2 ++ (m ++ l))) w7 := hEs; generalize w3.heap.size = b6 at *)
          clear hEs hS
          try clear hAl
          try clear hA
          cases he : (er != 0) with
          | true =>
            have HT := SL.hid (show buildD es = (er, []) from HB.out.trans (if_neg (by simpa using he)))
            clear HB HN HL2 HAd2 Htk
            go_wp2_with (first
              | go_skip
              | ((with_reducible (show Go.wpList _ _ _ (Go.Oper.mk _ (.store 33 _ _) _ _ _ _ :: _) _ _)); (first | (refine wpl_storeW hE 0 rfl rfl rfl (xs := [.slice none 0 0]) rfl rfl Tryd.sizeOf33 rfl (by simp [Value.oneCell']) rfl ?_) | (refine wpl_storeW hE 1 rfl rfl rfl (xs := [.slice none 0 0]) rfl rfl Tryd.sizeOf33 rfl (by simp [Value.oneCell']) rfl ?_) | (refine wpl_storeW hE 2 rfl rfl rfl (xs := [.slice none 0 0]) rfl rfl Tryd.sizeOf33 rfl (by simp [Value.oneCell']) rfl ?_) | (refine wpl_storeW hE 3 rfl rfl rfl (xs := [.slice none 0 0]) rfl rfl Tryd.sizeOf33 rfl (by simp [Value.oneCell']) rfl ?_) | (refine wpl_storeW hE 4 rfl rfl rfl (xs := [.slice none 0 0]) rfl rfl Tryd.sizeOf33 rfl (by simp [Value.oneCell']) rfl ?_) | (refine wpl_storeW hE 5 rfl rfl rfl (xs := [.slice none 0 0]) rfl rfl Tryd.sizeOf33 rfl (by simp [Value.oneCell']) rfl ?_) | (refine wpl_storeW hE 6 rfl rfl rfl (xs := [.slice none 0 0]) rfl rfl Tryd.sizeOf33 rfl (by simp [Value.oneCell']) rfl ?_) | (refine wpl_storeW hE 7 rfl rfl rfl (xs := [.slice none 0 0]) rfl rfl Tryd.sizeOf33 rfl (by simp [Value.oneCell']) rfl ?_)); clear hE; intro w hE; simp only [List.set_cons_zero, List.set_cons_succ] at hE))
            refine bodyPost_ret (results_cell2 rfl hE 2 rfl rfl Tryd.isAgg33 Tryd.sizeOf33 rfl rfl) rfl ?_
            refine ⟨_, rfl, pt b6 (.cells #[.slice a2 L2.length c2] 33) :: pt b4 (.cells #[.slice a L.length ca] 33) :: pt b2 (.cells #[.slice none 0 0] 33) :: (m2 ++ m), none, 0, ?_, ?_, ?_⟩
            · rw [HT.out]; rfl
            · simp only [List.cons_append, List.append_assoc]; exact hE
            · rw [HT.out]; exact fun _ _ => reads_nil 0 0 rfl _
          | false =>
            obtain rfl : er = 0 := by simpa using he
            obtain rfl := HL2.out rfl
            have HT := SL.hid (HB.out.trans (if_pos rfl))
            have HN2 := SL.hid (HN.out rfl)
            clear HB HN HL2 HAd2 he
            generalize hL3 : L ++ [(⟨xp, xd, xb⟩ : En)] = L3 at *
            have HL3 := SL.hid hL3
            clear hL3
            go_wp2_with (first
              | go_skip
              | ((with_reducible (show Go.wpList _ _ _ (Go.Oper.mk _ (.load 33 _) _ _ _ _ :: _) _ _)); (first | (refine wpl_loadW hE 0 rfl rfl rfl rfl Tryd.isAgg33 Tryd.sizeOf33 rfl ?_) | (refine wpl_loadW hE 1 rfl rfl rfl rfl Tryd.isAgg33 Tryd.sizeOf33 rfl ?_) | (refine wpl_loadW hE 2 rfl rfl rfl rfl Tryd.isAgg33 Tryd.sizeOf33 rfl ?_) | (refine wpl_loadW hE 3 rfl rfl rfl rfl Tryd.isAgg33 Tryd.sizeOf33 rfl ?_) | (refine wpl_loadW hE 4 rfl rfl rfl rfl Tryd.isAgg33 Tryd.sizeOf33 rfl ?_) | (refine wpl_loadW hE 5 rfl rfl rfl rfl Tryd.isAgg33 Tryd.sizeOf33 rfl ?_) | (refine wpl_loadW hE 6 rfl rfl rfl rfl Tryd.isAgg33 Tryd.sizeOf33 rfl ?_) | (refine wpl_loadW hE 7 rfl rfl rfl rfl Tryd.isAgg33 Tryd.sizeOf33 rfl ?_)))
              | ((with_reducible (show Go.wpList _ _ _ (Go.Oper.mk _ (.store 33 _ _) _ _ _ _ :: _) _ _)); (first | (refine wpl_storeW hE 0 rfl rfl rfl (xs := [.slice a2 L3.length c2]) rfl rfl Tryd.sizeOf33 rfl (by simp [Value.oneCell']) rfl ?_) | (refine wpl_storeW hE 1 rfl rfl rfl (xs := [.slice a2 L3.length c2]) rfl rfl Tryd.sizeOf33 rfl (by simp [Value.oneCell']) rfl ?_) | (refine wpl_storeW hE 2 rfl rfl rfl (xs := [.slice a2 L3.length c2]) rfl rfl Tryd.sizeOf33 rfl (by simp [Value.oneCell']) rfl ?_) | (refine wpl_storeW hE 3 rfl rfl rfl (xs := [.slice a2 L3.length c2]) rfl rfl Tryd.sizeOf33 rfl (by simp [Value.oneCell']) rfl ?_) | (refine wpl_storeW hE 4 rfl rfl rfl (xs := [.slice a2 L3.length c2]) rfl rfl Tryd.sizeOf33 rfl (by simp [Value.oneCell']) rfl ?_) | (refine wpl_storeW hE 5 rfl rfl rfl (xs := [.slice a2 L3.length c2]) rfl rfl Tryd.sizeOf33 rfl (by simp [Value.oneCell']) rfl ?_) | (refine wpl_storeW hE 6 rfl rfl rfl (xs := [.slice a2 L3.length c2]) rfl rfl Tryd.sizeOf33 rfl (by simp [Value.oneCell']) rfl ?_) | (refine wpl_storeW hE 7 rfl rfl rfl (xs := [.slice a2 L3.length c2]) rfl rfl Tryd.sizeOf33 rfl (by simp [Value.oneCell']) rfl ?_)); clear hE; intro w hE; simp only [List.set_cons_zero, List.set_cons_succ] at hE))
            go_roundw
            case rel =>
              refine ⟨k + 1, m2 ++ m, a2, c2, L3, hlt, by first | rfl | simp, by rw [Htk.out], HT.out, HN2.out, ?_, ?_⟩
              · rw [List.append_assoc]; exact hK2
              · rw [List.append_assoc]; exact hE.tail
            case measure => simp [intOf] <;> omega
      · obtain rfl : k = es.length := by omega
        rw [List.drop_length] at hB
        have HT := SL.hid (show buildD es = (0, L) from hB)
        clear hB hL
        go_wp2_with (first
          | go_skip
          | ((with_reducible (show Go.wpList _ _ _ (Go.Oper.mk _ (.load 33 _) _ _ _ _ :: _) _ _)); (first | (refine wpl_loadW hE 0 rfl rfl rfl rfl Tryd.isAgg33 Tryd.sizeOf33 rfl ?_) | (refine wpl_loadW hE 1 rfl rfl rfl rfl Tryd.isAgg33 Tryd.sizeOf33 rfl ?_) | (refine wpl_loadW hE 2 rfl rfl rfl rfl Tryd.isAgg33 Tryd.sizeOf33 rfl ?_) | (refine wpl_loadW hE 3 rfl rfl rfl rfl Tryd.isAgg33 Tryd.sizeOf33 rfl ?_) | (refine wpl_loadW hE 4 rfl rfl rfl rfl Tryd.isAgg33 Tryd.sizeOf33 rfl ?_) | (refine wpl_loadW hE 5 rfl rfl rfl rfl Tryd.isAgg33 Tryd.sizeOf33 rfl ?_) | (refine wpl_loadW hE 6 rfl rfl rfl rfl Tryd.isAgg33 Tryd.sizeOf33 rfl ?_) | (refine wpl_loadW hE 7 rfl rfl rfl rfl Tryd.isAgg33 Tryd.sizeOf33 rfl ?_)))
          | ((with_reducible (show Go.wpList _ _ _ (Go.Oper.mk _ (.store 33 _ _) _ _ _ _ :: _) _ _)); (first | (refine wpl_storeW hE 0 rfl rfl rfl (xs := [.slice a L.length ca]) rfl rfl Tryd.sizeOf33 rfl (by simp [Value.oneCell']) rfl ?_) | (refine wpl_storeW hE 1 rfl rfl rfl (xs := [.slice a L.length ca]) rfl rfl Tryd.sizeOf33 rfl (by simp [Value.oneCell']) rfl ?_) | (refine wpl_storeW hE 2 rfl rfl rfl (xs := [.slice a L.length ca]) rfl rfl Tryd.sizeOf33 rfl (by simp [Value.oneCell']) rfl ?_) | (refine wpl_storeW hE 3 rfl rfl rfl (xs := [.slice a L.length ca]) rfl rfl Tryd.sizeOf33 rfl (by simp [Value.oneCell']) rfl ?_) | (refine wpl_storeW hE 4 rfl rfl rfl (xs := [.slice a L.length ca]) rfl rfl Tryd.sizeOf33 rfl (by simp [Value.oneCell']) rfl ?_) | (refine wpl_storeW hE 5 rfl rfl rfl (xs := [.slice a L.length ca]) rfl rfl Tryd.sizeOf33 rfl (by simp [Value.oneCell']) rfl ?_) | (refine wpl_storeW hE 6 rfl rfl rfl (xs := [.slice a L.length ca]) rfl rfl Tryd.sizeOf33 rfl (by simp [Value.oneCell']) rfl ?_) | (refine wpl_storeW hE 7 rfl rfl rfl (xs := [.slice a L.length ca]) rfl rfl Tryd.sizeOf33 rfl (by simp [Value.oneCell']) rfl ?_)); clear hE; intro w hE; simp only [List.set_cons_zero, List.set_cons_succ] at hE))
        refine bodyPost_ret (results_cell2 rfl hE 1 rfl rfl Tryd.isAgg33 Tryd.sizeOf33 rfl rfl) rfl ?_
        refine ⟨_, rfl, pt b4 (.cells #[.slice a L.length ca] 33) :: pt b2 (.cells #[.slice a L.length ca] 33) :: m, a, ca, ?_, ?_, ?_⟩
        · rw [HT.out]; rfl
        · exact hE
        · rw [HT.out]; exact hkL.suf (List.suffix_append [_, _] _)
end Go.Proofs.YtjmllpgmbaoebaaDoor
namespace Go.Proofs.YtjmllpgmbaoebaaDoor
open Go.RowKit Go.SL

/-- may this one be picked as number k? -/
def Cand (S : List En) (k : Nat) (x : En) : Prop := ∀ h : 0 < k ∧ k - 1 < S.length, Op.bytesLess (S[k - 1]'h.2).path x.path = true
theorem rising_at {S : List En} (hr : Rising (S.map En.path)) {i j : Nat} (hij : i < j) (hj : j < S.length) : Op.bytesLess (S[i]'(by omega)).path S[j].path = true := by
  have := hr.of hij (by simpa using hj)
  simpa using this
theorem cand_iff {S : List En} (hr : Rising (S.map En.path)) {k m : Nat} (hk : k ≤ S.length) (hm : m < S.length) : Cand S k S[m] ↔ k ≤ m := by
  constructor
  · intro h
    rcases Nat.lt_or_ge m k with h1 | h1
    · have h2 := h ⟨by omega, by omega⟩
      rcases Nat.lt_or_eq_of_le (show m ≤ k - 1 by omega) with h3 | h3
      · rw [bl_asymm (rising_at hr h3 (by omega))] at h2; cases h2
      · subst h3
        rw [bl_irrefl] at h2; cases h2
    · exact h1
  · intro h h1
    exact rising_at hr (by omega) hm
theorem best_at {l S : List En} (hp : l.Perm S) (hr : Rising (S.map En.path)) {k b : Nat} (hk : k < S.length) (hb : b < l.length) (hc : Cand S k l[b])
    (hmin : ∀ (j : Nat) (h : j < l.length), Cand S k l[j] → Op.bytesLess l[j].path l[b].path = false) : l[b] = S[k] := by
  obtain ⟨m, hm, e⟩ := List.getElem_of_mem (hp.mem_iff.1 (List.getElem_mem hb))
  obtain ⟨j, hj, e2⟩ := List.getElem_of_mem (hp.mem_iff.2 (List.getElem_mem hk))
  rw [← e] at hc
  have h1 := (cand_iff hr (by omega) hm).1 hc
  have h2 := hmin j hj (by rw [e2]; exact (cand_iff hr (by omega) hk).2 (Nat.le_refl _))
  rw [e2, ← e] at h2
  rcases Nat.lt_or_eq_of_le h1 with h3 | h3
  · rw [rising_at hr h3 hm] at h2; cases h2
  · subst h3; exact e.symm
theorem some_cand {l S : List En} (hp : l.Perm S) (hr : Rising (S.map En.path)) {k : Nat} (hk : k < S.length) : ∃ (j : Nat) (h : j < l.length), Cand S k l[j] := by
  obtain ⟨j, hj, e2⟩ := List.getElem_of_mem (hp.mem_iff.2 (List.getElem_mem hk))
  exact ⟨j, hj, by rw [e2]; exact (cand_iff hr (by omega) hk).2 (Nat.le_refl _)⟩
end Go.Proofs.YtjmllpgmbaoebaaDoor
namespace Go.Proofs.YtjmllpgmbaoebaaDoor
open Go.RowKit Go.SL

def T1 : Tr := .nd true [] [([100], .nd true [] [([120], .nd false [97, 98] [])])]
def es1 : List En := [⟨[100], true, []⟩, ⟨[100, 47, 120], false, [97, 98]⟩]
def es2 : List En := [⟨[100, 47, 120], false, []⟩]
set_option maxRecDepth 100000 in
theorem built1 : buildT es1 = (0, T1) := by kernel_rfl
set_option maxRecDepth 100000 in
theorem built2 : buildT es2 = (8, .zero) := by kernel_rfl
theorem at1 : atT 11 10 [[100], [120]] T1 = (0, .nd false [97, 98] []) := by kernel_rfl
theorem at2 : atT 11 10 [[100], [121]] T1 = (10, .zero) := by kernel_rfl
theorem at3 : atT 11 10 [[100], [120], [122]] T1 = (11, .zero) := by kernel_rfl
set_option maxRecDepth 100000 in
theorem all1 : (entT 6 [] T1).length = 2 := by kernel_rfl
set_option maxRecDepth 100000 in
theorem wf1 : Tr.Wf 6 T1 := by
  have h := (build_same es1).2 (by rw [built1])
  rw [built1] at h
  exact h.1.2.1
theorem wk_build {es : List En} {b : Nat} {l : List HProp} {w : World} (hn : es.length ≤ 2) (hb : ∀ x ∈ es, x.path.length ≤ 1000000 ∧ x.data.length ≤ 1000000) (hE : Ent (pt b (.cells (es.flatMap enC).toArray 41) :: l) w) :
    Calls Tryd.prog 10 #[.slice (some ⟨b, 0, none⟩) es.length es.length] w (Ret fun v w' => ∃ m kv, v = .tuple #[nodeV (buildT es).2 kv, .int .i64 (buildT es).1] ∧ Ent (m ++ l) w' ∧ KidsAt (m ++ l) kv (buildT es).2.kids) := by
  refine (Build_any (by omega) hb (fun w h => reads_pt h 0 rfl (off := 0) (fun j u hu => by rw [Nat.zero_add, List.getElem?_toArray]; exact hu)) hE).mono ?_
  rintro e w' ⟨v, rfl, m, kv, rfl, h, hk⟩
  refine ⟨_, rfl, m ++ [pt b (.cells (es.flatMap enC).toArray 41)], kv, rfl, ?_, ?_⟩
  · rw [List.append_assoc]; exact h
  · rw [List.append_assoc]; exact hk
theorem wk_at {q : List (List UInt8)} {b : Nat} {kv : Value} {l : List HProp} {w : World} (hkv : KidsAt l kv T1.kids) (hq : q.length ≤ 3) (hE : Ent (pt b (.cells (q.map strv).toArray 9) :: l) w) :
    Calls Tryd.prog 15 #[nodeV T1 kv, .slice (some ⟨b, 0, none⟩) q.length q.length] w (Ret fun v w' => ∃ kv', v = .tuple #[nodeV (atT 11 10 q T1).2 kv', .int .i64 (atT 11 10 q T1).1] ∧ Ent l w' ∧ ∃ a c, kv' = .slice a (atT 11 10 q T1).2.kids.length c) := by
  refine (At_any wf1 (hkv.suf (List.suffix_cons _ _)) (by omega) (fun w h => reads_pt h 0 rfl (off := 0) (fun j u hu => by rw [Nat.zero_add, List.getElem?_toArray]; exact hu)) hE).mono ?_
  rintro e w' ⟨v, rfl, kv', rfl, h, hk⟩
  exact ⟨_, rfl, kv', rfl, h.tail, hk.slice⟩
end Go.Proofs.YtjmllpgmbaoebaaDoor
namespace Go.Proofs.YtjmllpgmbaoebaaDoor
open Go.RowKit Go.SL

theorem run_two (s t : List UInt8) (w : World) : (Instr.buildSlice 23 2 #[(0, strv s), (1, strv t)]).run Tryd.prog w = .ok (.slice (some ⟨w.heap.size, 0, none⟩) 2 2) (w.alloc (.cells #[strv s, strv t] 9)) := by
  simp [strv, go_sem]
theorem run_three (s t u : List UInt8) (w : World) : (Instr.buildSlice 23 3 #[(0, strv s), (1, strv t), (2, strv u)]).run Tryd.prog w = .ok (.slice (some ⟨w.heap.size, 0, none⟩) 3 3) (w.alloc (.cells #[strv s, strv t, strv u] 9)) := by
  simp [strv, go_sem]
section
variable {ops : Array Oper} {rest : List Oper} {o : Oper} {a : Act} {Q : Exit → Act → World → Prop} {w : World} {l : List HProp}
/-- a slice of two texts that are written out, of three -/
theorem wpl_two (hE : Ent l w) {x y : Operand} (ho : o.op = .buildSlice 23 2 #[(0, x), (1, y)]) (hw : Region.wanted o (yielded ops a.tmps) = true) {s t : List UInt8} (hx : a.eval x = strv s) (hy : a.eval y = strv t)
    (h : ∀ b w', Ent (pt b (.cells #[strv s, strv t] 9) :: l) w' → wpList Tryd.prog ops Q rest (a.put o.dst (.slice (some ⟨b, 0, none⟩) 2 2)) w') : wpList Tryd.prog ops Q (o :: rest) a w := by
  refine wpl_run hw (w' := w.alloc (.cells #[strv s, strv t] 9)) (v := .slice (some ⟨w.heap.size, 0, none⟩) 2 2) ?_ (h _ _ (hE.alloc _))
  have e : (#[((0 : Nat), x), (1, y)].map fun (p : Nat × Operand) => (p.1, a.eval p.2)) = #[(0, strv s), (1, strv t)] := by simp [hx, hy]
  have hr := run_two s t w
  simp only [execOp, ho, Sem.run_bind]
  rw [show (#[((0 : Nat), x), (1, y)].map fun (p : Nat × Operand) => match p with | (i, x) => (i, a.eval x)) = #[(0, strv s), (1, strv t)] from e, hr]
  simp
theorem wpl_three (hE : Ent l w) {x y z : Operand} (ho : o.op = .buildSlice 23 3 #[(0, x), (1, y), (2, z)]) (hw : Region.wanted o (yielded ops a.tmps) = true) {s t u : List UInt8} (hx : a.eval x = strv s) (hy : a.eval y = strv t) (hz : a.eval z = strv u)
    (h : ∀ b w', Ent (pt b (.cells #[strv s, strv t, strv u] 9) :: l) w' → wpList Tryd.prog ops Q rest (a.put o.dst (.slice (some ⟨b, 0, none⟩) 3 3)) w') : wpList Tryd.prog ops Q (o :: rest) a w := by
  refine wpl_run hw (w' := w.alloc (.cells #[strv s, strv t, strv u] 9)) (v := .slice (some ⟨w.heap.size, 0, none⟩) 3 3) ?_ (h _ _ (hE.alloc _))
  have e : (#[((0 : Nat), x), (1, y), (2, z)].map fun (p : Nat × Operand) => (p.1, a.eval p.2)) = #[(0, strv s), (1, strv t), (2, strv u)] := by simp [hx, hy, hz]
  have hr := run_three s t u w
  simp only [execOp, ho, Sem.run_bind]
  rw [show (#[((0 : Nat), x), (1, y), (2, z)].map fun (p : Nat × Operand) => match p with | (i, x) => (i, a.eval x)) = #[(0, strv s), (1, strv t), (2, strv u)] from e, hr]
  simp
end
theorem cells_of {w : World} {b n c : Nat} {xs : List Value} (h : reads (.slice (some ⟨b, 0, none⟩) n c) n xs w) (j : Nat) (u : Value) (hu : xs[j]? = some u) : w.cell? ⟨b, j, none⟩ = some u := by
  obtain ⟨ao, c', e, _, h2⟩ := h
  cases e
  have := h2 _ rfl j u hu
  rwa [Addr.add_lit, Nat.zero_add] at this
set_option maxRecDepth 100000 in
set_option maxHeartbeats 4000000 in
attribute [-go_sem] Instr.loadAt in
theorem wakes20_any {l : List HProp} {w : World} (hE : Ent l w) : Calls Tryd.prog 9 #[] w (Ret fun v w' => v = .bool true ∧ Ent l w') := by
  have HB1 := SL.hid (fun (b : Nat) (L : List HProp) (w : World) (hE : Ent (pt b (.cells #[.string ⟨#[100]⟩, .bool true, .string ⟨#[]⟩, .string ⟨#[100, 47, 120]⟩, .bool false, .string ⟨#[97, 98]⟩] 41) :: L) w) =>
    show Calls Tryd.prog 10 #[.slice (some ⟨b, 0, none⟩) 2 2] w (Ret fun v w' => ∃ m a c, v = .tuple #[.agg #[.bool true, .string ⟨#[]⟩, .slice a 1 c], .int .i64 0] ∧ Ent (m ++ L) w' ∧ KidsAt (m ++ L) (.slice a 1 c) T1.kids) from by
      refine (wk_build (es := es1) (by decide) (by intro x hx; simp only [es1, List.mem_cons, List.not_mem_nil, or_false] at hx; rcases hx with rfl | rfl <;> exact ⟨by decide, by decide⟩) hE).mono ?_
      rintro e w' ⟨v, rfl, m, kv, h, hE, hk⟩
      rw [built1] at h hk
      obtain ⟨a, c, rfl⟩ := hk.slice
      exact ⟨_, rfl, m, a, c, h, hE, hk⟩)
  have HB2 := SL.hid (fun (b : Nat) (L : List HProp) (w : World) (hE : Ent (pt b (.cells #[.string ⟨#[100, 47, 120]⟩, .bool false, .string ⟨#[]⟩] 41) :: L) w) =>
    show Calls Tryd.prog 10 #[.slice (some ⟨b, 0, none⟩) 1 1] w (Ret fun v w' => ∃ a c, v = .tuple #[.agg #[.bool false, .string ⟨#[]⟩, .slice a 0 c], .int .i64 8] ∧ Ent L w') from by
      refine (wk_build (es := es2) (by decide) (by intro x hx; simp only [es2, List.mem_cons, List.not_mem_nil, or_false] at hx; subst hx; exact ⟨by decide, by decide⟩) hE).mono ?_
      rintro e w' ⟨v, rfl, m, kv, h, hE, hk⟩
      rw [built2] at h hk
      obtain ⟨a, c, rfl⟩ := hk.slice
      exact ⟨_, rfl, a, c, h, hE.drop⟩)
  have HA1 := SL.hid (fun (a : Option Addr) (c b : Nat) (L : List HProp) (w : World) (hk : KidsAt L (.slice a 1 c) T1.kids) (hE : Ent (pt b (.cells #[strv [100], strv [120]] 9) :: L) w) =>
    show Calls Tryd.prog 15 #[.agg #[.bool true, .string ⟨#[]⟩, .slice a 1 c], .slice (some ⟨b, 0, none⟩) 2 2] w (Ret fun v w' => ∃ a' c', v = .tuple #[.agg #[.bool false, .string ⟨#[97, 98]⟩, .slice a' 0 c'], .int .i64 0] ∧ Ent L w') from by
      refine (wk_at (q := [[100], [120]]) hk (by decide) hE).mono ?_
      rintro e w' ⟨v, rfl, kv', h, hE, a', c', hk⟩
      rw [at1] at h hk
      subst hk
      exact ⟨_, rfl, a', c', h, hE⟩)
  have HA2 := SL.hid (fun (a : Option Addr) (c b : Nat) (L : List HProp) (w : World) (hk : KidsAt L (.slice a 1 c) T1.kids) (hE : Ent (pt b (.cells #[strv [100], strv [121]] 9) :: L) w) =>
    show Calls Tryd.prog 15 #[.agg #[.bool true, .string ⟨#[]⟩, .slice a 1 c], .slice (some ⟨b, 0, none⟩) 2 2] w (Ret fun v w' => ∃ a' c', v = .tuple #[.agg #[.bool false, .string ⟨#[]⟩, .slice a' 0 c'], .int .i64 10] ∧ Ent L w') from by
      refine (wk_at (q := [[100], [121]]) hk (by decide) hE).mono ?_
      rintro e w' ⟨v, rfl, kv', h, hE, a', c', hk⟩
      rw [at2] at h hk
      subst hk
      exact ⟨_, rfl, a', c', h, hE⟩)
  have HA3 := SL.hid (fun (a : Option Addr) (c b : Nat) (L : List HProp) (w : World) (hk : KidsAt L (.slice a 1 c) T1.kids) (hE : Ent (pt b (.cells #[strv [100], strv [120], strv [122]] 9) :: L) w) =>
    show Calls Tryd.prog 15 #[.agg #[.bool true, .string ⟨#[]⟩, .slice a 1 c], .slice (some ⟨b, 0, none⟩) 3 3] w (Ret fun v w' => ∃ a' c', v = .tuple #[.agg #[.bool false, .string ⟨#[]⟩, .slice a' 0 c'], .int .i64 11] ∧ Ent L w') from by
      refine (wk_at (q := [[100], [120], [122]]) hk (by decide) hE).mono ?_
      rintro e w' ⟨v, rfl, kv', h, hE, a', c', hk⟩
      rw [at3] at h hk
      subst hk
      exact ⟨_, rfl, a', c', h, hE⟩)
  have HL := SL.hid (fun (a : Option Addr) (c : Nat) (L : List HProp) (w : World) (hk : KidsAt L (.slice a 1 c) T1.kids) (hE : Ent L w) =>
    show Calls Tryd.prog 17 #[.agg #[.bool true, .string ⟨#[]⟩, .slice a 1 c]] w (Ret fun v w' => ∃ a' c', v = .slice a' 1 c' ∧ Ent (row 47 3 (.slice a' 1 c') 1 [.string ⟨#[100]⟩, .bool true, .int .i64 0] :: L) w') from List_any (t := T1) (by decide) hk hE)
  have HN := SL.hid (fun (a : Option Addr) (c : Nat) (L : List HProp) (w : World) (hk : KidsAt L (.slice a 1 c) T1.kids) (hE : Ent L w) =>
    show Calls Tryd.prog 13 #[.agg #[.bool true, .string ⟨#[]⟩, .slice a 1 c]] w (Ret fun v w' => ∃ a' c' m, v = .slice a' 2 c' ∧ Ent (m ++ L) w') from by
      refine (Entries_any wf1 (by decide) hk (by rw [all1]; decide) hE).mono ?_
      rintro e w' ⟨v, rfl, ao, c, m, h, hE⟩
      rw [all1] at h
      exact ⟨_, rfl, ao, c, m, h, hE.tail⟩)
  go_enter Tryd.func9, Tryd.ntmps9
  go_wp2_with (first
    | go_skip
    | ((with_reducible (show Go.wpList _ _ _ (Go.Oper.mk _ (.buildSlice 22 2 _) _ _ _ _ :: _) _ _)); refine wpl_build2 hE rfl rfl (xs := [.string ⟨#[100]⟩, .bool true, .string ⟨#[]⟩]) (ys := [.string ⟨#[100, 47, 120]⟩, .bool false, .string ⟨#[97, 98]⟩]) rfl rfl Tryd.underlying22 zs_en Tryd.sizeOf41 (by decide) (by decide) rfl rfl ?_; clear hE; intro s1 w hE)
    | ((with_reducible (show Go.wpList _ _ _ (Go.Oper.mk _ (.buildSlice 22 1 _) _ _ _ _ :: _) _ _)); refine wpl_build1 hE rfl rfl (xs := [.string ⟨#[100, 47, 120]⟩, .bool false, .string ⟨#[]⟩]) rfl Tryd.underlying22 zs_en Tryd.sizeOf41 (by decide) (by decide) rfl ?_; clear hE; intro s1 w hE)
    | ((with_reducible (show Go.wpList _ _ _ (Go.Oper.mk _ (.buildSlice 23 2 _) _ _ _ _ :: _) _ _)); refine wpl_two hE rfl rfl (s := [100]) (t := [120]) rfl rfl ?_; clear hE; intro s2 w hE)
    | ((with_reducible (show Go.wpList _ _ _ (Go.Oper.mk _ (.buildSlice 23 2 _) _ _ _ _ :: _) _ _)); refine wpl_two hE rfl rfl (s := [100]) (t := [121]) rfl rfl ?_; clear hE; intro s2 w hE)
    | ((with_reducible (show Go.wpList _ _ _ (Go.Oper.mk _ (.buildSlice 23 3 _) _ _ _ _ :: _) _ _)); refine wpl_three hE rfl rfl (s := [100]) (t := [120]) (u := [122]) rfl rfl rfl ?_; clear hE; intro s2 w hE)
    | (go_at_call 10; refine (HB1.out _ _ _ hE).mono ?_; clear hE HB1; rintro e w2 ⟨v, rfl, m1, ka, kc, rfl, hE, hKA⟩)
    | (go_at_call 10; refine (HB2.out _ _ _ hE).mono ?_; clear hE HB2; rintro e w2 ⟨v, rfl, ia, ic, rfl, hE⟩)
    | (go_at_call 15; refine (HA1.out _ _ _ _ _ (hKA.suf (by repeat (first | exact List.suffix_refl _ | refine List.IsSuffix.trans ?_ (List.suffix_cons _ _)))) hE).mono ?_; clear hE HA1; rintro e w2 ⟨v, rfl, ja, jc, rfl, hE⟩)
    | (go_at_call 15; refine (HA2.out _ _ _ _ _ (hKA.suf (by repeat (first | exact List.suffix_refl _ | refine List.IsSuffix.trans ?_ (List.suffix_cons _ _)))) hE).mono ?_; clear hE HA2; rintro e w2 ⟨v, rfl, ja, jc, rfl, hE⟩)
    | (go_at_call 15; refine (HA3.out _ _ _ _ _ (hKA.suf (by repeat (first | exact List.suffix_refl _ | refine List.IsSuffix.trans ?_ (List.suffix_cons _ _)))) hE).mono ?_; clear hE HA3; rintro e w2 ⟨v, rfl, ja, jc, rfl, hE⟩)
    | (go_at_call 17; refine (HL.out _ _ _ _ (hKA.suf (by repeat (first | exact List.suffix_refl _ | refine List.IsSuffix.trans ?_ (List.suffix_cons _ _)))) hE).mono ?_; clear hE HL; rintro e w2 ⟨v, rfl, la, lc, rfl, hE⟩; obtain ⟨g, rfl, _, _⟩ := hE.rowIs 0 rfl (by decide))
    | (go_at_call 13; refine (HN.out _ _ _ _ (hKA.suf (by repeat (first | exact List.suffix_refl _ | refine List.IsSuffix.trans ?_ (List.suffix_cons _ _)))) hE).mono ?_; clear hE HN; rintro e w2 ⟨v, rfl, na, nc, m9, rfl, hE⟩)
    | ((with_reducible (show Go.wpList _ _ _ (Go.Oper.mk _ (.alloc 28) _ _ _ _ :: _) _ _)); refine wpl_alloc hE rfl rfl (by simp [go_sem]; rfl) ?_; clear hE; intro b w hE; simp only [Act.eval, Act.put, List.setIfInBounds_toArray, List.set_cons_zero, List.set_cons_succ, getD_lit, List.getD_cons_succ, List.getD_cons_zero, Value.cells] at hE)
    | ((with_reducible (show Go.wpList _ _ _ (Go.Oper.mk _ (.store 28 _ _) _ _ _ _ :: _) _ _)); refine wpl_storeW hE 0 rfl rfl rfl (xs := [_, _, _]) rfl rfl Tryd.sizeOf28 rfl (by simp [Value.oneCell']) rfl ?_; clear hE; intro w hE; simp only [List.set_cons_zero] at hE)
    | ((with_reducible (show Go.wpList _ _ _ (Go.Oper.mk _ (.load 28 _) _ _ _ _ :: _) _ _)); (first | (refine wpl_loadW hE 0 rfl rfl rfl rfl Tryd.isAgg28 Tryd.sizeOf28 rfl ?_) | (refine wpl_loadW hE 1 rfl rfl rfl rfl Tryd.isAgg28 Tryd.sizeOf28 rfl ?_) | (refine wpl_loadW hE 2 rfl rfl rfl rfl Tryd.isAgg28 Tryd.sizeOf28 rfl ?_) | (refine wpl_loadW hE 3 rfl rfl rfl rfl Tryd.isAgg28 Tryd.sizeOf28 rfl ?_) | (refine wpl_loadW hE 4 rfl rfl rfl rfl Tryd.isAgg28 Tryd.sizeOf28 rfl ?_) | (refine wpl_loadW hE 5 rfl rfl rfl rfl Tryd.isAgg28 Tryd.sizeOf28 rfl ?_) | (refine wpl_loadW hE 6 rfl rfl rfl rfl Tryd.isAgg28 Tryd.sizeOf28 rfl ?_) | (refine wpl_loadW hE 7 rfl rfl rfl rfl Tryd.isAgg28 Tryd.sizeOf28 rfl ?_)))
    | ((with_reducible (show Go.wpList _ _ _ (Go.Oper.mk _ (.load 47 _) _ _ _ _ :: _) _ _)); refine wpl_loadC rfl rfl rfl Tryd.isAgg47 Tryd.sizeOf47 [.string ⟨#[100]⟩, .bool true, .int .i64 0] rfl (fun j v hv => by rw [Addr.add_lit, Nat.zero_add]; exact cells_of (reads_row hE 0 rfl) j v hv) ?_)
    | ((with_reducible (show Go.wpList _ _ _ (Go.Oper.mk _ (.load _ _) _ _ _ _ :: _) _ _)); (first | (refine wpl_load1 hE 0 rfl rfl rfl rfl (by simp [go_sem]) rfl ?_) | (refine wpl_load1 hE 1 rfl rfl rfl rfl (by simp [go_sem]) rfl ?_) | (refine wpl_load1 hE 2 rfl rfl rfl rfl (by simp [go_sem]) rfl ?_) | (refine wpl_load1 hE 3 rfl rfl rfl rfl (by simp [go_sem]) rfl ?_) | (refine wpl_load1 hE 4 rfl rfl rfl rfl (by simp [go_sem]) rfl ?_) | (refine wpl_load1 hE 5 rfl rfl rfl rfl (by simp [go_sem]) rfl ?_) | (refine wpl_load1 hE 6 rfl rfl rfl rfl (by simp [go_sem]) rfl ?_) | (refine wpl_load1 hE 7 rfl rfl rfl rfl (by simp [go_sem]) rfl ?_))))
  go_ret
  exact ⟨_, rfl, rfl, hE.drop.tail.tail.tail.tail.tail.tail.drop⟩
end Go.Proofs.YtjmllpgmbaoebaaDoor
namespace Go.Proofs.YtjmllpgmbaoebaaDoor
open Go.RowKit Go.SL

theorem kd_at {L : List En} {p : List UInt8} {j : Nat} (hj : j < (kidsI L p).length) : ∃ (h1 : (kidsI L p)[j] < L.length) (h2 : j < (kidsD L p).length), L[(kidsI L p)[j]] = (kidsD L p)[j] := by
  have h1 : (kidsI L p)[j] < L.length := kidsI_lt (List.getElem_mem hj)
  have h2 : j < (kidsD L p).length := by rw [← kidsI_len]; exact hj
  refine ⟨h1, h2, ?_⟩
  have e := kidsI_map L p ⟨[], false, []⟩
  have : (kidsD L p)[j]? = some (L.getD (kidsI L p)[j] ⟨[], false, []⟩) := by rw [← e, List.getElem?_map, List.getElem?_eq_getElem hj]; rfl
  rw [List.getElem?_eq_getElem h2, List.getD_eq_getElem?_getD, List.getElem?_eq_getElem h1] at this
  exact (Option.some.inj this).symm
def outLen : Value → Nat | .slice _ n _ => n | _ => 0
/-- what is known of the least one so far -/
def Best (S D : List En) (k j : Nat) (v : Value) : Prop :=
  (v = .int .i64 (-1) ∧ ∀ (m : Nat) (h : m < D.length), m < j → ¬ Cand S k D[m]) ∨
  ∃ (b : Nat) (hb : b < D.length), b < j ∧ v = .int .i64 (b : Int) ∧ Cand S k D[b] ∧ ∀ (m : Nat) (h : m < D.length), m < j → Cand S k D[m] → Op.bytesLess D[m].path D[b].path = false
theorem Best.skip {S D : List En} {k j : Nat} {v : Value} (h : Best S D k j v) (hj : j < D.length) (hn : ¬ Cand S k D[j]) : Best S D k (j + 1) v := by
  rcases h with ⟨e, h⟩ | ⟨b, hb, hbj, e, hc, h⟩
  · refine .inl ⟨e, fun m hm hmj => ?_⟩
    rcases Nat.lt_or_eq_of_le (show m ≤ j by omega) with h1 | rfl
    · exact h m hm h1
    · exact hn
  · refine .inr ⟨b, hb, by omega, e, hc, fun m hm hmj => ?_⟩
    rcases Nat.lt_or_eq_of_le (show m ≤ j by omega) with h1 | rfl
    · exact h m hm h1
    · exact fun h' => absurd h' hn
theorem Best.first {S D : List En} {k j : Nat} (h : ∀ (m : Nat) (h : m < D.length), m < j → ¬ Cand S k D[m]) (hj : j < D.length) (hc : Cand S k D[j]) : Best S D k (j + 1) (.int .i64 (j : Int)) := by
  refine .inr ⟨j, hj, by omega, rfl, hc, fun m hm hmj => ?_⟩
  rcases Nat.lt_or_eq_of_le (show m ≤ j by omega) with h1 | rfl
  · exact fun h' => absurd h' (h m hm h1)
  · exact fun _ => bl_irrefl _
theorem Best.keep {S D : List En} {k j b : Nat} (hb : b < D.length) (hbj : b < j) (hc : Cand S k D[b]) (h : ∀ (m : Nat) (h : m < D.length), m < j → Cand S k D[m] → Op.bytesLess D[m].path D[b].path = false) (hj : j < D.length) (hl : Op.bytesLess D[j].path D[b].path = false) : Best S D k (j + 1) (.int .i64 (b : Int)) := by
  refine .inr ⟨b, hb, by omega, rfl, hc, fun m hm hmj => ?_⟩
  rcases Nat.lt_or_eq_of_le (show m ≤ j by omega) with h1 | rfl
  · exact h m hm h1
  · exact fun _ => hl
theorem Best.less {S D : List En} {k j b : Nat} (hb : b < D.length) (h : ∀ (m : Nat) (h : m < D.length), m < j → Cand S k D[m] → Op.bytesLess D[m].path D[b].path = false) (hj : j < D.length) (hc : Cand S k D[j]) (hl : Op.bytesLess D[j].path D[b].path = true) : Best S D k (j + 1) (.int .i64 (j : Int)) := by
  refine .inr ⟨j, hj, by omega, rfl, hc, fun m hm hmj hm2 => ?_⟩
  rcases Nat.lt_or_eq_of_le (show m ≤ j by omega) with h1 | rfl
  · have h2 := h m hm h1 hm2
    cases hx : Op.bytesLess D[m].path D[j].path with
    | false => rfl
    | true => rw [bl_trans hx hl] at h2; cases h2
  · exact bl_irrefl _
def SoPost (S : List En) (l : List HProp) (v : Value) (w' : World) : Prop := ∃ (a : Option Addr) (c : Nat) (m : List HProp), v = .slice a S.length c ∧ Ent (rowEn a c S :: (m ++ l)) w'
def SoRel (S : List En) (l : List HProp) (o : Value) (wr : World) : Prop :=
  ∃ (k : Nat) (a : Option Addr) (c : Nat), k ≤ S.length ∧ o = .slice a (S.take k).length c ∧ Ent (rowEn a c (S.take k) :: l) wr
def SiRel (S D : List En) (k : Nat) (l : List HProp) (v i : Value) (wr : World) : Prop :=
  ∃ j : Nat, j ≤ D.length ∧ i = .int .i64 j ∧ Best S D k j v ∧ Ent l wr
set_option maxRecDepth 100000 in
set_option maxHeartbeats 16000000 in
attribute [-go_sem] Instr.loadAt in
theorem Sorted_any {L S : List En} (hL : L.length ≤ 1000) (hb : ∀ x ∈ L, x.path.length ≤ 1000000) (p : List UInt8) (hS : (kidsD L p).Perm S) (hr : Rising (S.map En.path)) {ao : Option Addr} {c : Nat} {l : List HProp} {w : World} (hk : Knows l (reads (.slice ao L.length c) L.length (L.flatMap enC))) (hE : Ent l w) :
    Calls Tryd.prog 18 #[.agg #[.slice ao L.length c], .string ⟨p.toArray⟩] w (Ret (SoPost S l)) := by
  have HKi := SL.hid (fun (L' : List HProp) (w : World) (hs : l <:+ L') (h : Ent L' w) => kids_any (by omega) hb p (hk.suf hs) h)
  have HKD := SL.hid (fun (j : Nat) (h : j < (kidsI L p).length) => kd_at h)
  have hDn : (kidsD L p).length = (kidsI L p).length := (kidsI_len L p).symm
  have hSn := hS.length_eq
  have hle := kidsI_le L p
  have HS := SL.hid hS
  have Hr := SL.hid hr
  clear hS hr hb
  generalize kidsI L p = ki at *
  generalize kidsD L p = D at *
  have HDn := SL.hid hDn
  have HSn := SL.hid (hSn.symm.trans hDn)
  clear hDn hSn
  go_enter Tryd.func18, Tryd.ntmps18
  go_wp2_with (first
    | go_skip
    | ((with_reducible (show Go.wpList _ _ _ (Go.Oper.mk _ (.box _ _) _ _ _ _ :: _) _ _)); refine wpl_box hE rfl rfl rfl ?_; clear hE; intro b2 w hE; simp only [Act.eval, Act.put, List.setIfInBounds_toArray, List.set_cons_zero, List.set_cons_succ, getD_lit, List.getD_cons_succ, List.getD_cons_zero, Value.cells] at hE)
    | ((with_reducible (show Go.wpList _ _ _ (Go.Oper.mk _ (.load 33 _) _ _ _ _ :: _) _ _)); (first | (refine wpl_loadW hE 0 rfl rfl rfl rfl Tryd.isAgg33 Tryd.sizeOf33 rfl ?_) | (refine wpl_loadW hE 1 rfl rfl rfl rfl Tryd.isAgg33 Tryd.sizeOf33 rfl ?_) | (refine wpl_loadW hE 2 rfl rfl rfl rfl Tryd.isAgg33 Tryd.sizeOf33 rfl ?_) | (refine wpl_loadW hE 3 rfl rfl rfl rfl Tryd.isAgg33 Tryd.sizeOf33 rfl ?_) | (refine wpl_loadW hE 4 rfl rfl rfl rfl Tryd.isAgg33 Tryd.sizeOf33 rfl ?_) | (refine wpl_loadW hE 5 rfl rfl rfl rfl Tryd.isAgg33 Tryd.sizeOf33 rfl ?_) | (refine wpl_loadW hE 6 rfl rfl rfl rfl Tryd.isAgg33 Tryd.sizeOf33 rfl ?_) | (refine wpl_loadW hE 7 rfl rfl rfl rfl Tryd.isAgg33 Tryd.sizeOf33 rfl ?_)))
    | (go_at_call 36; refine (HKi.out _ _ (by repeat (first | exact List.suffix_refl _ | refine List.IsSuffix.trans ?_ (List.suffix_cons _ _))) hE).mono ?_; clear hE; rintro e w3 ⟨v, rfl, ak, ck, rfl, hE⟩))
  go_loopw [6] (fun o wr => SoRel S (rowN ak ck ki :: pt b2 (.cells #[.slice ao L.length c] 33) :: l) o wr) (fun o _ => S.length - outLen o)
  case atStart => exact ⟨0, none, 0, Nat.zero_le _, rfl, hE.nil _ _⟩
  case round =>
    clear hE
    obtain ⟨k, ar, cr, hkn, rfl, hE⟩ := hrel
    have htl : (S.take k).length = k := by rw [List.length_take]; omega
    simp only [rowEn, htl] at hE ⊢
    clear htl
    by_cases hlt : k < S.length
    · have hki : k < ki.length := by rw [← HSn.out]; exact hlt
      have hkI : (k : Int) < (ki.length : Int) := by omega
      obtain ⟨gk, rfl, _, _⟩ := hE.rowIs 1 rfl (by omega)
      have nk := SL.hid (fun (j : Nat) (hj : j < ki.length) (L' : List HProp) (w : World) (h : Ent (rowN (some ⟨gk, 0, none⟩) ck ki :: L') w) => show (Instr.loadAt 3 (.pointer (some ⟨gk, j, none⟩))).run Tryd.prog w = .ok (.int .i64 (ki[j] : Int)) w from
        atCell (cells_of (reads_row h 0 rfl) j (intv ki[j]) (by rw [List.getElem?_map, List.getElem?_eq_getElem hj]; rfl)) (by simp [go_sem]))
      have hki0 : 0 < ki.length := by omega
      have hL0 : 0 < L.length := by omega
      obtain ⟨b, off, rfl, hz⟩ := en_at (hk _ hE.tail.tail.tail) hL0
      clear hz
      have ld := SL.hid (fun (j : Nat) (hj : j < ki.length) (w : World) (h : Ent l w) => show (Instr.loadAt 41 (.pointer (some ⟨b, off + ki[j] * 3, none⟩))).run Tryd.prog w = .ok (.agg #[.string ⟨(D[j]'(by rw [HDn.out]; exact hj)).path.toArray⟩, .bool (D[j]'(by rw [HDn.out]; exact hj)).dir, .string ⟨(D[j]'(by rw [HDn.out]; exact hj)).data.toArray⟩]) w ∧ (Instr.loadAt 9 (.pointer (some ⟨b, off + ki[j] * 3, none⟩))).run Tryd.prog w = .ok (.string ⟨(D[j]'(by rw [HDn.out]; exact hj)).path.toArray⟩) w from by
        obtain ⟨h1, h2, h3⟩ := HKD.out j hj
        have := load_en (hk w h) h1
        rw [h3] at this
        exact ⟨this.1, this.2.1⟩)
      have kb := SL.hid (fun (j : Nat) (hj : j < ki.length) => show ki[j] < L.length from (HKD.out j hj).1)
      have hrowk := SL.hid (show ∀ (hk0 : 0 < k) (L' : List HProp) (w : World) (gr : Nat), Ent (row 41 3 (.slice (some ⟨gr, 0, none⟩) k cr) k ((S.take k).flatMap enC) :: L') w → (Instr.loadAt 9 (.pointer (some ⟨gr, (k - 1) * 3, none⟩))).run Tryd.prog w = .ok (.string ⟨(S[k - 1]'(by omega)).path.toArray⟩) w from fun hk0 L' w gr h => by
        have htl : (S.take k).length = k := by rw [List.length_take]; omega
        have h1 := reads_row h 0 rfl
        have h2 : reads (.slice (some ⟨gr, 0, none⟩) (S.take k).length cr) (S.take k).length ((S.take k).flatMap enC) w := by rw [htl]; exact h1
        have h3 := (load_en h2 (k := k - 1) (by rw [htl]; omega)).2.1
        rw [Nat.zero_add, List.getElem_take] at h3
        exact h3)
      have Hfl := SL.hid (show (S.take (k + 1)).flatMap enC = (S.take k).flatMap enC ++ enC S[k] from by rw [List.take_succ_eq_append_getElem hlt, List.flatMap_append, List.flatMap_singleton])
      have Hcan := SL.hid (fun (x : En) (hk0 : k = 0) => show Cand S k x from fun h => absurd h.1 (by omega))
      have Hca1 := SL.hid (fun (x : En) (hk0 : 0 < k) (h : Op.bytesLess (S[k - 1]'(by omega)).path x.path = true) => show Cand S k x from fun _ => h)
      have Hca2 := SL.hid (fun (x : En) (hk0 : 0 < k) (h : Op.bytesLess (S[k - 1]'(by omega)).path x.path = false) => show ¬ Cand S k x from fun h2 => by rw [h2 ⟨hk0, by omega⟩] at h; cases h)
      generalize (S.take k).flatMap enC = fl at *
      clear hk
      go_wp2
      go_loopw [7, 8] (fun v i wr => SiRel S D k (row 41 3 (.slice ar k cr) k fl :: rowN (some ⟨gk, 0, none⟩) ck ki :: pt b2 (.cells #[.slice (some ⟨b, off, none⟩) L.length c] 33) :: l) v i wr) (fun _ i _ => D.length - (intOf i).toNat)
      case atStart => exact ⟨0, Nat.zero_le _, rfl, .inl ⟨rfl, fun m _ h => absurd h (Nat.not_lt_zero m)⟩, hE⟩
      case round =>
        clear hE
        obtain ⟨j, hjn, rfl, hbest, hE⟩ := hrel
        by_cases hj : j < D.length
        · have hjk : j < ki.length := by rw [← HDn.out]; exact hj
          have hjI : (j : Int) < (ki.length : Int) := by omega
          obtain ⟨kj, hkj⟩ : ∃ x, ki[j] = x := ⟨_, rfl⟩
          have hkb := kb.out j hjk
          have nj := nk.out j hjk
          have lj := ld.out j hjk
          rw [hkj] at hkb nj lj
          have hkbI : (kj : Int) < (L.length : Int) := by omega
          have Nj := SL.hid nj
          have Lj := SL.hid lj
          have HC0 := SL.hid (Hcan.out D[j])
          have HC1 := SL.hid (Hca1.out D[j])
          have HC2 := SL.hid (Hca2.out D[j])
          obtain ⟨xp, hxp⟩ : ∃ x, D[j].path = x := ⟨_, rfl⟩
          have Hxp := SL.hid hxp
          rw [hxp] at Lj HC1 HC2
          obtain ⟨xd, hxd⟩ : ∃ x, D[j].dir = x := ⟨_, rfl⟩
          obtain ⟨xb, hxb⟩ : ∃ x, D[j].data = x := ⟨_, rfl⟩
          rw [hxd, hxb] at Lj
          clear nj lj hkj hxp hxd hxb
          go_wp2
          refine wp_region_held_drew (S := (fun w' => ((Instr.loadAt 22 (.pointer (some ⟨b2, 0, none⟩))).run Tryd.prog w' = .ok (.slice (some ⟨b, off, none⟩) L.length c) w') ∧ ((Instr.loadAt 3 (.pointer (some ⟨gk, j, none⟩))).run Tryd.prog w' = .ok (.int .i64 (kj : Int)) w') ∧ ((Instr.loadAt 41 (.pointer (some ⟨b, off + kj * 3, none⟩))).run Tryd.prog w' = .ok (.agg #[.string ⟨xp.toArray⟩, .bool xd, .string ⟨xb.toArray⟩]) w'))) (by kernel_rfl) ⟨(atVm hE.drew (by repeat (first | exact List.Mem.head _ | refine List.Mem.tail _ ?_)) (by simp [go_sem]) rfl), (Nj.out _ _ (hE.drew.suf (by repeat (first | exact List.suffix_refl _ | refine List.IsSuffix.trans ?_ (List.suffix_cons _ _))))), ((Lj.out _ (hE.drew.suf (by repeat (first | exact List.suffix_refl _ | refine List.IsSuffix.trans ?_ (List.suffix_cons _ _))))).1)⟩ (fun hS => ?_)
          refine takeW 0 ⟨some 24, .fieldAddr 33 (.tmp 2) 0, 0, "ref.go:87", #[], none⟩ ?_ (.inl ⟨by rfl, ?_⟩) hS ?_
          rotate_left
          · (intro w hSw; (try dsimp only at hSw); go_simp; (try with_reducible rfl))
          try simp only [Act.put, sb, s0, sz]
          refine takeW 1 ⟨some 25, .load 22 (.tmp 24), 22, "ref.go:87", #[⟨0, .data⟩], none⟩ ?_ (.inl ⟨by rfl, ?_⟩) hS ?_
          rotate_left
          · (intro w hSw; (try dsimp only at hSw); go_simp; (try with_reducible rfl))
          try simp only [Act.put, sb, s0, sz]
          refine takeW 2 ⟨some 26, .move (.tmp 5), 72, "ref.go:87", #[], none⟩ ?_ (.inl ⟨by rfl, ?_⟩) hS ?_
          rotate_left
          · (intro w hSw; (try dsimp only at hSw); go_simp; (try with_reducible rfl))
          try simp only [Act.put, sb, s0, sz]
          refine takeW 3 ⟨some 27, .move (.tmp 8), 3, "ref.go:87", #[], none⟩ ?_ (.inl ⟨by rfl, ?_⟩) hS ?_
          rotate_left
          · (intro w hSw; (try dsimp only at hSw); go_simp; (try with_reducible rfl))
          try simp only [Act.put, sb, s0, sz]
          refine takeW 4 ⟨some 28, .indexAddr 72 (.tmp 26) (.tmp 27), 0, "ref.go:87", #[⟨2, .data⟩, ⟨3, .data⟩], none⟩ ?_ (.inl ⟨by rfl, ?_⟩) hS ?_
          rotate_left
          · (intro w hSw; (try dsimp only at hSw); go_simp; (try with_reducible rfl))
          try simp only [Act.put, sb, s0, sz]
          refine takeW 5 ⟨some 29, .load 3 (.tmp 28), 3, "ref.go:87", #[⟨4, .data⟩], none⟩ ?_ (.inl ⟨by rfl, ?_⟩) hS ?_
          rotate_left
          · (intro w hSw; (try dsimp only at hSw); go_simp; (try with_reducible rfl))
          try simp only [Act.put, sb, s0, sz]
          refine takeW 6 ⟨some 30, .indexAddr 22 (.tmp 25) (.tmp 29), 0, "ref.go:87", #[⟨1, .data⟩, ⟨5, .data⟩], none⟩ ?_ (.inl ⟨by rfl, ?_⟩) hS ?_
          rotate_left
          · (intro w hSw; (try dsimp only at hSw); go_simp; (try with_reducible rfl))
          try simp only [Act.put, sb, s0, sz]
          refine takeW 7 ⟨some 31, .load 41 (.tmp 30), 41, "ref.go:87", #[⟨6, .data⟩], none⟩ ?_ (.inl ⟨by rfl, ?_⟩) hS ?_
          rotate_left
          · (intro w hSw; (try dsimp only at hSw); go_simp; (try with_reducible rfl))
          try simp only [Act.put, sb, s0, sz]
          refine wpAnyH_ready (rs := [8]) (by kernel_rfl) (by simp) ?_
          refine (AllReadyH.cons (o := { dst := some 9, op := Go.Op.alloc 41, type := 0, pos := "ref.go:87", after := #[], guard := none }) rfl (fun K hK => ?_) AllReadyH.nil)
          (go_simp; have hAl := hE.drew.alloc (.cells #[.string ⟨#[]⟩, .bool false, .string ⟨#[]⟩] 41))
          refine hK.out _ _ ⟨(atVm hAl (by repeat (first | exact List.Mem.head _ | refine List.Mem.tail _ ?_)) (by simp [go_sem]) rfl), (Nj.out _ _ (hAl.suf (by repeat (first | exact List.suffix_refl _ | refine List.IsSuffix.trans ?_ (List.suffix_cons _ _))))), ((Lj.out _ (hAl.suf (by repeat (first | exact List.suffix_refl _ | refine List.IsSuffix.trans ?_ (List.suffix_cons _ _))))).1)⟩ (fun hS => ?_)
          clear hK K
          try simp only [Act.put, sb, s0, sz]
          refine wpAnyH_ready (rs := [9]) (by kernel_rfl) (by simp) ?_
          refine (AllReadyH.cons (o := { dst := none, op := Go.Op.store 41 (Go.Operand.tmp 9) (Go.Operand.tmp 31), type := 0, pos := "ref.go:87", after := #[{ on := 8, ground := Go.Ground.data }, { on := 7, ground := Go.Ground.data }, { on := 0, ground := Go.Ground.phase }, { on := 1, ground := Go.Ground.phase }, { on := 2, ground := Go.Ground.phase }, { on := 3, ground := Go.Ground.phase }, { on := 4, ground := Go.Ground.phase }, { on := 5, ground := Go.Ground.phase }, { on := 6, ground := Go.Ground.phase }, { on := 7, ground := Go.Ground.phase }, { on := 8, ground := Go.Ground.phase }], guard := none }) rfl (fun K hK => ?_) AllReadyH.nil)
          (refine step_storeW hAl 0 rfl (by rfl) (by rfl) (by rfl) (xs := [.string ⟨xp.toArray⟩, .bool xd, .string ⟨xb.toArray⟩]) (by rfl) Tryd.sizeOf41 rfl (by simp [Value.oneCell']) rfl ?_; intro w7 hEs; simp only [List.set_cons_zero, List.set_cons_succ] at hEs)
          refine hK.out _ _ ⟨(atVm hEs (by repeat (first | exact List.Mem.head _ | refine List.Mem.tail _ ?_)) (by simp [go_sem]) rfl), (Nj.out _ _ (hEs.suf (by repeat (first | exact List.suffix_refl _ | refine List.IsSuffix.trans ?_ (List.suffix_cons _ _))))), ((Lj.out _ (hEs.suf (by repeat (first | exact List.suffix_refl _ | refine List.IsSuffix.trans ?_ (List.suffix_cons _ _))))).1)⟩ (fun hS => ?_)
          clear hK K
          try simp only [Act.put, sb, s0, sz]
          refine wpAnyH_done (by kernel_rfl) ?_ _
          replace hE : Ent (pt wr.heap.size (.cells #[.string ⟨xp.toArray⟩, .bool xd, .string ⟨xb.toArray⟩] 41) :: row 41 3 (.slice ar k cr) k fl :: rowN (some ⟨gk, 0, none⟩) ck ki :: pt b2 (.cells #[.slice (some ⟨b, off, none⟩) L.length c] 33) :: l) w7 := hEs
          generalize wr.heap.size = b9 at *
          clear hEs hS hAl
          by_cases hk0 : k = 0
          · have HCand := SL.hid (HC0.out hk0)
            have hkz : ((k : Int) == 0) = true := by simp [hk0]
            clear HC0 HC1 HC2 hk0
            rcases hbest with ⟨rfl, hno⟩ | ⟨bb, hbb, hbj, rfl, hcb, hmin⟩
            · have HB := SL.hid (Best.first hno hj HCand.out)
              clear hno
              go_wp2
              refine wp_region_held_drew (S := (fun w' => ((Instr.loadAt 9 (.pointer (some ⟨b9, 0, none⟩))).run Tryd.prog w' = .ok (.string ⟨xp.toArray⟩) w'))) (by kernel_rfl) (atVm hE.drew (by repeat (first | exact List.Mem.head _ | refine List.Mem.tail _ ?_)) (by simp [go_sem]) rfl) (fun hS => ?_)
              refine takeW 0 ⟨some 32, .move (.tmp 6), 22, "ref.go:88", #[], none⟩ ?_ (.inl ⟨by rfl, ?_⟩) hS ?_
              rotate_left
              · (intro w hSw; (try dsimp only at hSw); go_simp; (try with_reducible rfl))
              try simp only [Act.put, sb, s0, sz]
              refine takeW 1 ⟨some 33, .call { callee := .builtin .len, args := #[.tmp 32], argTypes := #[22] }, 3, "ref.go:88", #[⟨0, .data⟩], none⟩ ?_ (.inl ⟨by rfl, ?_⟩) hS ?_
              rotate_left
              · (intro w hSw; (try dsimp only at hSw); go_simp; (try with_reducible rfl))
              try simp only [Act.put, sb, s0, sz]
              refine takeW 2 ⟨some 34, .binOp .eql 3 (.tmp 33) (.const (.int .i64 0)) 3, 4, "ref.go:88", #[⟨1, .data⟩], none⟩ ?_ (.inl ⟨by rfl, ?_⟩) hS ?_
              rotate_left
              · (intro w hSw; (try dsimp only at hSw); go_simp; (try with_reducible rfl))
              try simp only [Act.put, sb, s0, sz]
              refine takeW 3 ⟨some 35, .move (.tmp 34), 4, "ref.go:88", #[⟨2, .data⟩], none⟩ ?_ (.inl ⟨by rfl, ?_⟩) hS ?_
              rotate_left
              · (intro w hSw; (try dsimp only at hSw); go_simp; (try with_reducible rfl))
              try simp only [Act.put, sb, s0, sz]
              refine takeW 4 ⟨some 36, .fieldAddr 41 (.tmp 9) 0, 0, "ref.go:88", #[⟨3, .guard⟩], some (3, false)⟩ undef (.inr ⟨by rfl, rfl⟩) hS ?_; try simp only [Act.put, sb, s0, sz]
              refine takeW 5 ⟨some 37, .load 9 (.tmp 36), 9, "ref.go:88", #[⟨4, .data⟩, ⟨3, .guard⟩], some (3, false)⟩ undef (.inr ⟨by rfl, rfl⟩) hS ?_; try simp only [Act.put, sb, s0, sz]
              refine takeW 6 ⟨some 38, .move (.tmp 6), 22, "ref.go:88", #[⟨3, .guard⟩], some (3, false)⟩ undef (.inr ⟨by rfl, rfl⟩) hS ?_; try simp only [Act.put, sb, s0, sz]
              refine takeW 7 ⟨some 39, .move (.tmp 6), 22, "ref.go:88", #[⟨3, .guard⟩], some (3, false)⟩ undef (.inr ⟨by rfl, rfl⟩) hS ?_; try simp only [Act.put, sb, s0, sz]
              refine takeW 8 ⟨some 40, .call { callee := .builtin .len, args := #[.tmp 39], argTypes := #[22] }, 3, "ref.go:88", #[⟨7, .data⟩, ⟨3, .guard⟩], some (3, false)⟩ undef (.inr ⟨by rfl, rfl⟩) hS ?_; try simp only [Act.put, sb, s0, sz]
              refine takeW 9 ⟨some 41, .binOp .sub 3 (.tmp 40) (.const (.int .i64 1)) 3, 3, "ref.go:88", #[⟨8, .data⟩, ⟨3, .guard⟩], some (3, false)⟩ undef (.inr ⟨by rfl, rfl⟩) hS ?_; try simp only [Act.put, sb, s0, sz]
              refine takeW 10 ⟨some 42, .indexAddr 22 (.tmp 38) (.tmp 41), 0, "ref.go:88", #[⟨6, .data⟩, ⟨9, .data⟩, ⟨3, .guard⟩], some (3, false)⟩ undef (.inr ⟨by rfl, rfl⟩) hS ?_; try simp only [Act.put, sb, s0, sz]
              refine takeW 11 ⟨some 43, .fieldAddr 41 (.tmp 42) 0, 0, "ref.go:88", #[⟨10, .data⟩, ⟨3, .guard⟩], some (3, false)⟩ undef (.inr ⟨by rfl, rfl⟩) hS ?_; try simp only [Act.put, sb, s0, sz]
              refine takeW 12 ⟨some 44, .load 9 (.tmp 43), 9, "ref.go:88", #[⟨11, .data⟩, ⟨3, .guard⟩], some (3, false)⟩ undef (.inr ⟨by rfl, rfl⟩) hS ?_; try simp only [Act.put, sb, s0, sz]
              refine takeW 13 ⟨some 45, .binOp .gtr 9 (.tmp 37) (.tmp 44) 9, 4, "ref.go:88", #[⟨5, .data⟩, ⟨12, .data⟩, ⟨3, .guard⟩], some (3, false)⟩ undef (.inr ⟨by rfl, rfl⟩) hS ?_; try simp only [Act.put, sb, s0, sz]
              refine takeW 14 ⟨some 46, .pick (.tmp 35) (.const (.bool true)) (.tmp 45), 4, "ref.go:88", #[⟨3, .data⟩, ⟨13, .data⟩], none⟩ ?_ (.inl ⟨by rfl, ?_⟩) hS ?_
              rotate_left
              · (intro w hSw; (try dsimp only at hSw); go_simp; (try with_reducible rfl))
              try simp only [Act.put, sb, s0, sz]
              refine takeW 15 ⟨some 47, .move (.tmp 46), 4, "ref.go:88", #[⟨14, .data⟩, ⟨3, .chain⟩], none⟩ ?_ (.inl ⟨by rfl, ?_⟩) hS ?_
              rotate_left
              · (intro w hSw; (try dsimp only at hSw); go_simp; (try with_reducible rfl))
              try simp only [Act.put, sb, s0, sz]
              refine takeW 16 ⟨some 48, .move (.tmp 7), 3, "ref.go:88", #[⟨15, .guard⟩], some (15, true)⟩ ?_ (.inl ⟨by rfl, ?_⟩) hS ?_
              rotate_left
              · (intro w hSw; (try dsimp only at hSw); go_simp; (try with_reducible rfl))
              try simp only [Act.put, sb, s0, sz]
              refine takeW 17 ⟨some 49, .binOp .lss 3 (.tmp 48) (.const (.int .i64 0)) 3, 4, "ref.go:88", #[⟨16, .data⟩, ⟨15, .guard⟩], some (15, true)⟩ ?_ (.inl ⟨by rfl, ?_⟩) hS ?_
              rotate_left
              · (intro w hSw; (try dsimp only at hSw); go_simp; (try with_reducible rfl))
              try simp only [Act.put, sb, s0, sz]
              refine takeW 18 ⟨some 50, .move (.tmp 49), 4, "ref.go:88", #[⟨17, .data⟩, ⟨15, .chain⟩, ⟨15, .guard⟩], some (15, true)⟩ ?_ (.inl ⟨by rfl, ?_⟩) hS ?_
              rotate_left
              · (intro w hSw; (try dsimp only at hSw); go_simp; (try with_reducible rfl))
              try simp only [Act.put, sb, s0, sz]
              refine takeW 19 ⟨some 51, .fieldAddr 41 (.tmp 9) 0, 0, "ref.go:88", #[⟨18, .guard⟩], some (18, false)⟩ undef (.inr ⟨by rfl, rfl⟩) hS ?_; try simp only [Act.put, sb, s0, sz]
              refine takeW 20 ⟨some 52, .load 9 (.tmp 51), 9, "ref.go:88", #[⟨19, .data⟩, ⟨18, .guard⟩], some (18, false)⟩ undef (.inr ⟨by rfl, rfl⟩) hS ?_; try simp only [Act.put, sb, s0, sz]
              refine takeW 21 ⟨some 53, .fieldAddr 33 (.tmp 2) 0, 0, "ref.go:88", #[⟨18, .guard⟩], some (18, false)⟩ undef (.inr ⟨by rfl, rfl⟩) hS ?_; try simp only [Act.put, sb, s0, sz]
              refine takeW 22 ⟨some 54, .load 22 (.tmp 53), 22, "ref.go:88", #[⟨21, .data⟩, ⟨18, .guard⟩], some (18, false)⟩ undef (.inr ⟨by rfl, rfl⟩) hS ?_; try simp only [Act.put, sb, s0, sz]
              refine takeW 23 ⟨some 55, .move (.tmp 5), 72, "ref.go:88", #[⟨18, .guard⟩], some (18, false)⟩ undef (.inr ⟨by rfl, rfl⟩) hS ?_; try simp only [Act.put, sb, s0, sz]
              refine takeW 24 ⟨some 56, .move (.tmp 7), 3, "ref.go:88", #[⟨18, .guard⟩], some (18, false)⟩ undef (.inr ⟨by rfl, rfl⟩) hS ?_; try simp only [Act.put, sb, s0, sz]
              refine takeW 25 ⟨some 57, .indexAddr 72 (.tmp 55) (.tmp 56), 0, "ref.go:88", #[⟨23, .data⟩, ⟨24, .data⟩, ⟨18, .guard⟩], some (18, false)⟩ undef (.inr ⟨by rfl, rfl⟩) hS ?_; try simp only [Act.put, sb, s0, sz]
              refine takeW 26 ⟨some 58, .load 3 (.tmp 57), 3, "ref.go:88", #[⟨25, .data⟩, ⟨18, .guard⟩], some (18, false)⟩ undef (.inr ⟨by rfl, rfl⟩) hS ?_; try simp only [Act.put, sb, s0, sz]
              refine takeW 27 ⟨some 59, .indexAddr 22 (.tmp 54) (.tmp 58), 0, "ref.go:88", #[⟨22, .data⟩, ⟨26, .data⟩, ⟨18, .guard⟩], some (18, false)⟩ undef (.inr ⟨by rfl, rfl⟩) hS ?_; try simp only [Act.put, sb, s0, sz]
              refine takeW 28 ⟨some 60, .fieldAddr 41 (.tmp 59) 0, 0, "ref.go:88", #[⟨27, .data⟩, ⟨18, .guard⟩], some (18, false)⟩ undef (.inr ⟨by rfl, rfl⟩) hS ?_; try simp only [Act.put, sb, s0, sz]
              refine takeW 29 ⟨some 61, .load 9 (.tmp 60), 9, "ref.go:88", #[⟨28, .data⟩, ⟨18, .guard⟩], some (18, false)⟩ undef (.inr ⟨by rfl, rfl⟩) hS ?_; try simp only [Act.put, sb, s0, sz]
              refine takeW 30 ⟨some 62, .binOp .lss 9 (.tmp 52) (.tmp 61) 9, 4, "ref.go:88", #[⟨20, .data⟩, ⟨29, .data⟩, ⟨18, .guard⟩], some (18, false)⟩ undef (.inr ⟨by rfl, rfl⟩) hS ?_; try simp only [Act.put, sb, s0, sz]
              refine takeW 31 ⟨some 63, .pick (.tmp 50) (.const (.bool true)) (.tmp 62), 4, "ref.go:88", #[⟨18, .data⟩, ⟨30, .data⟩, ⟨15, .guard⟩], some (15, true)⟩ ?_ (.inl ⟨by rfl, ?_⟩) hS ?_
              rotate_left
              · (intro w hSw; (try dsimp only at hSw); go_simp; (try with_reducible rfl))
              try simp only [Act.put, sb, s0, sz]
              refine takeW 32 ⟨some 64, .pick (.tmp 47) (.tmp 63) (.const (.bool false)), 4, "ref.go:88", #[⟨15, .data⟩, ⟨31, .data⟩], none⟩ ?_ (.inl ⟨by rfl, ?_⟩) hS ?_
              rotate_left
              · (intro w hSw; (try dsimp only at hSw); go_simp; (try with_reducible rfl))
              try simp only [Act.put, sb, s0, sz]
              refine wpAnyH_done (by kernel_rfl) ?_ _
              clear hS
              go_wp2
              go_roundw
              case rel => exact ⟨j + 1, by omega, by first | rfl | simp, HB.out, hE.drew.tail⟩
              case measure => simp [intOf] <;> omega
            · have hbk : bb < ki.length := by rw [← HDn.out]; exact hbb
              obtain ⟨kb2, hkb2⟩ : ∃ x, ki[bb] = x := ⟨_, rfl⟩
              have hbb3 := kb.out bb hbk
              have nb := nk.out bb hbk
              have lb := ld.out bb hbk
              rw [hkb2] at hbb3 nb lb
              have hkb3 : (kb2 : Int) < (L.length : Int) := by omega
              have hkb4 : (bb : Int) < (ki.length : Int) := by omega
              have hb0 : ¬ ((bb : Int) < 0) := by omega
              have HBl := SL.hid (fun h => Best.less hbb hmin hj HCand.out h)
              have HBk := SL.hid (fun h => Best.keep hbb hbj hcb hmin hj h)
              rw [Hxp.out] at HBl HBk
              obtain ⟨yp, hyp⟩ : ∃ x, (D[bb]'hbb).path = x := ⟨_, rfl⟩
              rw [hyp] at lb HBl HBk
              have Nb := SL.hid nb
              have Lb := SL.hid lb
              clear nb lb hkb2 hyp hmin hcb hbb3
              cases hlt2 : Op.bytesLess xp yp with
              | true =>
                have HB := SL.hid (HBl.out hlt2)
                clear HBl HBk
                go_wp2
                refine wp_region_held_drew (S := (fun w' => ((Instr.loadAt 9 (.pointer (some ⟨b9, 0, none⟩))).run Tryd.prog w' = .ok (.string ⟨xp.toArray⟩) w') ∧ ((Instr.loadAt 22 (.pointer (some ⟨b2, 0, none⟩))).run Tryd.prog w' = .ok (.slice (some ⟨b, off, none⟩) L.length c) w') ∧ ((Instr.loadAt 3 (.pointer (some ⟨gk, bb, none⟩))).run Tryd.prog w' = .ok (.int .i64 (kb2 : Int)) w') ∧ ((Instr.loadAt 9 (.pointer (some ⟨b, off + kb2 * 3, none⟩))).run Tryd.prog w' = .ok (.string ⟨yp.toArray⟩) w'))) (by kernel_rfl) ⟨(atVm hE.drew (by repeat (first | exact List.Mem.head _ | refine List.Mem.tail _ ?_)) (by simp [go_sem]) rfl), (atVm hE.drew (by repeat (first | exact List.Mem.head _ | refine List.Mem.tail _ ?_)) (by simp [go_sem]) rfl), (Nb.out _ _ hE.drew.tail.tail), ((Lb.out _ (hE.drew.suf (by repeat (first | exact List.suffix_refl _ | refine List.IsSuffix.trans ?_ (List.suffix_cons _ _))))).2)⟩ (fun hS => ?_)
                refine takeW 0 ⟨some 32, .move (.tmp 6), 22, "ref.go:88", #[], none⟩ ?_ (.inl ⟨by rfl, ?_⟩) hS ?_
                rotate_left
                · (intro w hSw; (try dsimp only at hSw); go_simp; (try with_reducible rfl))
                try simp only [Act.put, sb, s0, sz]
                refine takeW 1 ⟨some 33, .call { callee := .builtin .len, args := #[.tmp 32], argTypes := #[22] }, 3, "ref.go:88", #[⟨0, .data⟩], none⟩ ?_ (.inl ⟨by rfl, ?_⟩) hS ?_
                rotate_left
                · (intro w hSw; (try dsimp only at hSw); go_simp; (try with_reducible rfl))
                try simp only [Act.put, sb, s0, sz]
                refine takeW 2 ⟨some 34, .binOp .eql 3 (.tmp 33) (.const (.int .i64 0)) 3, 4, "ref.go:88", #[⟨1, .data⟩], none⟩ ?_ (.inl ⟨by rfl, ?_⟩) hS ?_
                rotate_left
                · (intro w hSw; (try dsimp only at hSw); go_simp; (try with_reducible rfl))
                try simp only [Act.put, sb, s0, sz]
                refine takeW 3 ⟨some 35, .move (.tmp 34), 4, "ref.go:88", #[⟨2, .data⟩], none⟩ ?_ (.inl ⟨by rfl, ?_⟩) hS ?_
                rotate_left
                · (intro w hSw; (try dsimp only at hSw); go_simp; (try with_reducible rfl))
                try simp only [Act.put, sb, s0, sz]
                refine takeW 4 ⟨some 36, .fieldAddr 41 (.tmp 9) 0, 0, "ref.go:88", #[⟨3, .guard⟩], some (3, false)⟩ undef (.inr ⟨by rfl, rfl⟩) hS ?_; try simp only [Act.put, sb, s0, sz]
                refine takeW 5 ⟨some 37, .load 9 (.tmp 36), 9, "ref.go:88", #[⟨4, .data⟩, ⟨3, .guard⟩], some (3, false)⟩ undef (.inr ⟨by rfl, rfl⟩) hS ?_; try simp only [Act.put, sb, s0, sz]
                refine takeW 6 ⟨some 38, .move (.tmp 6), 22, "ref.go:88", #[⟨3, .guard⟩], some (3, false)⟩ undef (.inr ⟨by rfl, rfl⟩) hS ?_; try simp only [Act.put, sb, s0, sz]
                refine takeW 7 ⟨some 39, .move (.tmp 6), 22, "ref.go:88", #[⟨3, .guard⟩], some (3, false)⟩ undef (.inr ⟨by rfl, rfl⟩) hS ?_; try simp only [Act.put, sb, s0, sz]
                refine takeW 8 ⟨some 40, .call { callee := .builtin .len, args := #[.tmp 39], argTypes := #[22] }, 3, "ref.go:88", #[⟨7, .data⟩, ⟨3, .guard⟩], some (3, false)⟩ undef (.inr ⟨by rfl, rfl⟩) hS ?_; try simp only [Act.put, sb, s0, sz]
                refine takeW 9 ⟨some 41, .binOp .sub 3 (.tmp 40) (.const (.int .i64 1)) 3, 3, "ref.go:88", #[⟨8, .data⟩, ⟨3, .guard⟩], some (3, false)⟩ undef (.inr ⟨by rfl, rfl⟩) hS ?_; try simp only [Act.put, sb, s0, sz]
                refine takeW 10 ⟨some 42, .indexAddr 22 (.tmp 38) (.tmp 41), 0, "ref.go:88", #[⟨6, .data⟩, ⟨9, .data⟩, ⟨3, .guard⟩], some (3, false)⟩ undef (.inr ⟨by rfl, rfl⟩) hS ?_; try simp only [Act.put, sb, s0, sz]
                refine takeW 11 ⟨some 43, .fieldAddr 41 (.tmp 42) 0, 0, "ref.go:88", #[⟨10, .data⟩, ⟨3, .guard⟩], some (3, false)⟩ undef (.inr ⟨by rfl, rfl⟩) hS ?_; try simp only [Act.put, sb, s0, sz]
                refine takeW 12 ⟨some 44, .load 9 (.tmp 43), 9, "ref.go:88", #[⟨11, .data⟩, ⟨3, .guard⟩], some (3, false)⟩ undef (.inr ⟨by rfl, rfl⟩) hS ?_; try simp only [Act.put, sb, s0, sz]
                refine takeW 13 ⟨some 45, .binOp .gtr 9 (.tmp 37) (.tmp 44) 9, 4, "ref.go:88", #[⟨5, .data⟩, ⟨12, .data⟩, ⟨3, .guard⟩], some (3, false)⟩ undef (.inr ⟨by rfl, rfl⟩) hS ?_; try simp only [Act.put, sb, s0, sz]
                refine takeW 14 ⟨some 46, .pick (.tmp 35) (.const (.bool true)) (.tmp 45), 4, "ref.go:88", #[⟨3, .data⟩, ⟨13, .data⟩], none⟩ ?_ (.inl ⟨by rfl, ?_⟩) hS ?_
                rotate_left
                · (intro w hSw; (try dsimp only at hSw); go_simp; (try with_reducible rfl))
                try simp only [Act.put, sb, s0, sz]
                refine takeW 15 ⟨some 47, .move (.tmp 46), 4, "ref.go:88", #[⟨14, .data⟩, ⟨3, .chain⟩], none⟩ ?_ (.inl ⟨by rfl, ?_⟩) hS ?_
                rotate_left
                · (intro w hSw; (try dsimp only at hSw); go_simp; (try with_reducible rfl))
                try simp only [Act.put, sb, s0, sz]
                refine takeW 16 ⟨some 48, .move (.tmp 7), 3, "ref.go:88", #[⟨15, .guard⟩], some (15, true)⟩ ?_ (.inl ⟨by rfl, ?_⟩) hS ?_
                rotate_left
                · (intro w hSw; (try dsimp only at hSw); go_simp; (try with_reducible rfl))
                try simp only [Act.put, sb, s0, sz]
                refine takeW 17 ⟨some 49, .binOp .lss 3 (.tmp 48) (.const (.int .i64 0)) 3, 4, "ref.go:88", #[⟨16, .data⟩, ⟨15, .guard⟩], some (15, true)⟩ ?_ (.inl ⟨by rfl, ?_⟩) hS ?_
                rotate_left
                · (intro w hSw; (try dsimp only at hSw); go_simp; (try with_reducible rfl))
                try simp only [Act.put, sb, s0, sz]
                refine takeW 18 ⟨some 50, .move (.tmp 49), 4, "ref.go:88", #[⟨17, .data⟩, ⟨15, .chain⟩, ⟨15, .guard⟩], some (15, true)⟩ ?_ (.inl ⟨by rfl, ?_⟩) hS ?_
                rotate_left
                · (intro w hSw; (try dsimp only at hSw); go_simp; (try with_reducible rfl))
                try simp only [Act.put, sb, s0, sz]
                refine takeW 19 ⟨some 51, .fieldAddr 41 (.tmp 9) 0, 0, "ref.go:88", #[⟨18, .guard⟩], some (18, false)⟩ ?_ (.inl ⟨by rfl, ?_⟩) hS ?_
                rotate_left
                · (intro w hSw; (try dsimp only at hSw); go_simp; (try with_reducible rfl))
                try simp only [Act.put, sb, s0, sz]
                refine takeW 20 ⟨some 52, .load 9 (.tmp 51), 9, "ref.go:88", #[⟨19, .data⟩, ⟨18, .guard⟩], some (18, false)⟩ ?_ (.inl ⟨by rfl, ?_⟩) hS ?_
                rotate_left
                · (intro w hSw; (try dsimp only at hSw); go_simp; (try with_reducible rfl))
                try simp only [Act.put, sb, s0, sz]
                refine takeW 21 ⟨some 53, .fieldAddr 33 (.tmp 2) 0, 0, "ref.go:88", #[⟨18, .guard⟩], some (18, false)⟩ ?_ (.inl ⟨by rfl, ?_⟩) hS ?_
                rotate_left
                · (intro w hSw; (try dsimp only at hSw); go_simp; (try with_reducible rfl))
                try simp only [Act.put, sb, s0, sz]
                refine takeW 22 ⟨some 54, .load 22 (.tmp 53), 22, "ref.go:88", #[⟨21, .data⟩, ⟨18, .guard⟩], some (18, false)⟩ ?_ (.inl ⟨by rfl, ?_⟩) hS ?_
                rotate_left
                · (intro w hSw; (try dsimp only at hSw); go_simp; (try with_reducible rfl))
                try simp only [Act.put, sb, s0, sz]
                refine takeW 23 ⟨some 55, .move (.tmp 5), 72, "ref.go:88", #[⟨18, .guard⟩], some (18, false)⟩ ?_ (.inl ⟨by rfl, ?_⟩) hS ?_
                rotate_left
                · (intro w hSw; (try dsimp only at hSw); go_simp; (try with_reducible rfl))
                try simp only [Act.put, sb, s0, sz]
                refine takeW 24 ⟨some 56, .move (.tmp 7), 3, "ref.go:88", #[⟨18, .guard⟩], some (18, false)⟩ ?_ (.inl ⟨by rfl, ?_⟩) hS ?_
                rotate_left
                · (intro w hSw; (try dsimp only at hSw); go_simp; (try with_reducible rfl))
                try simp only [Act.put, sb, s0, sz]
                refine takeW 25 ⟨some 57, .indexAddr 72 (.tmp 55) (.tmp 56), 0, "ref.go:88", #[⟨23, .data⟩, ⟨24, .data⟩, ⟨18, .guard⟩], some (18, false)⟩ ?_ (.inl ⟨by rfl, ?_⟩) hS ?_
                rotate_left
                · (intro w hSw; (try dsimp only at hSw); go_simp; (try with_reducible rfl))
                try simp only [Act.put, sb, s0, sz]
                refine takeW 26 ⟨some 58, .load 3 (.tmp 57), 3, "ref.go:88", #[⟨25, .data⟩, ⟨18, .guard⟩], some (18, false)⟩ ?_ (.inl ⟨by rfl, ?_⟩) hS ?_
                rotate_left
                · (intro w hSw; (try dsimp only at hSw); go_simp; (try with_reducible rfl))
                try simp only [Act.put, sb, s0, sz]
                refine takeW 27 ⟨some 59, .indexAddr 22 (.tmp 54) (.tmp 58), 0, "ref.go:88", #[⟨22, .data⟩, ⟨26, .data⟩, ⟨18, .guard⟩], some (18, false)⟩ ?_ (.inl ⟨by rfl, ?_⟩) hS ?_
                rotate_left
                · (intro w hSw; (try dsimp only at hSw); go_simp; (try with_reducible rfl))
                try simp only [Act.put, sb, s0, sz]
                refine takeW 28 ⟨some 60, .fieldAddr 41 (.tmp 59) 0, 0, "ref.go:88", #[⟨27, .data⟩, ⟨18, .guard⟩], some (18, false)⟩ ?_ (.inl ⟨by rfl, ?_⟩) hS ?_
                rotate_left
                · (intro w hSw; (try dsimp only at hSw); go_simp; (try with_reducible rfl))
                try simp only [Act.put, sb, s0, sz]
                refine takeW 29 ⟨some 61, .load 9 (.tmp 60), 9, "ref.go:88", #[⟨28, .data⟩, ⟨18, .guard⟩], some (18, false)⟩ ?_ (.inl ⟨by rfl, ?_⟩) hS ?_
                rotate_left
                · (intro w hSw; (try dsimp only at hSw); go_simp; (try with_reducible rfl))
                try simp only [Act.put, sb, s0, sz]
                refine takeW 30 ⟨some 62, .binOp .lss 9 (.tmp 52) (.tmp 61) 9, 4, "ref.go:88", #[⟨20, .data⟩, ⟨29, .data⟩, ⟨18, .guard⟩], some (18, false)⟩ ?_ (.inl ⟨by rfl, ?_⟩) hS ?_
                rotate_left
                · (intro w hSw; (try dsimp only at hSw); go_simp; (try with_reducible rfl))
                try simp only [Act.put, sb, s0, sz]
                refine takeW 31 ⟨some 63, .pick (.tmp 50) (.const (.bool true)) (.tmp 62), 4, "ref.go:88", #[⟨18, .data⟩, ⟨30, .data⟩, ⟨15, .guard⟩], some (15, true)⟩ ?_ (.inl ⟨by rfl, ?_⟩) hS ?_
                rotate_left
                · (intro w hSw; (try dsimp only at hSw); go_simp; (try with_reducible rfl))
                try simp only [Act.put, sb, s0, sz]
                refine takeW 32 ⟨some 64, .pick (.tmp 47) (.tmp 63) (.const (.bool false)), 4, "ref.go:88", #[⟨15, .data⟩, ⟨31, .data⟩], none⟩ ?_ (.inl ⟨by rfl, ?_⟩) hS ?_
                rotate_left
                · (intro w hSw; (try dsimp only at hSw); go_simp; (try with_reducible rfl))
                try simp only [Act.put, sb, s0, sz]
                refine wpAnyH_done (by kernel_rfl) ?_ _
                clear hS
                go_wp2
                go_roundw
                case rel => exact ⟨j + 1, by omega, by first | rfl | simp, HB.out, hE.drew.tail⟩
                case measure => simp [intOf] <;> omega
              | false =>
                have HB := SL.hid (HBk.out hlt2)
                clear HBl HBk
                go_wp2
                refine wp_region_held_drew (S := (fun w' => ((Instr.loadAt 9 (.pointer (some ⟨b9, 0, none⟩))).run Tryd.prog w' = .ok (.string ⟨xp.toArray⟩) w') ∧ ((Instr.loadAt 22 (.pointer (some ⟨b2, 0, none⟩))).run Tryd.prog w' = .ok (.slice (some ⟨b, off, none⟩) L.length c) w') ∧ ((Instr.loadAt 3 (.pointer (some ⟨gk, bb, none⟩))).run Tryd.prog w' = .ok (.int .i64 (kb2 : Int)) w') ∧ ((Instr.loadAt 9 (.pointer (some ⟨b, off + kb2 * 3, none⟩))).run Tryd.prog w' = .ok (.string ⟨yp.toArray⟩) w'))) (by kernel_rfl) ⟨(atVm hE.drew (by repeat (first | exact List.Mem.head _ | refine List.Mem.tail _ ?_)) (by simp [go_sem]) rfl), (atVm hE.drew (by repeat (first | exact List.Mem.head _ | refine List.Mem.tail _ ?_)) (by simp [go_sem]) rfl), (Nb.out _ _ hE.drew.tail.tail), ((Lb.out _ (hE.drew.suf (by repeat (first | exact List.suffix_refl _ | refine List.IsSuffix.trans ?_ (List.suffix_cons _ _))))).2)⟩ (fun hS => ?_)
                refine takeW 0 ⟨some 32, .move (.tmp 6), 22, "ref.go:88", #[], none⟩ ?_ (.inl ⟨by rfl, ?_⟩) hS ?_
                rotate_left
                · (intro w hSw; (try dsimp only at hSw); go_simp; (try with_reducible rfl))
                try simp only [Act.put, sb, s0, sz]
                refine takeW 1 ⟨some 33, .call { callee := .builtin .len, args := #[.tmp 32], argTypes := #[22] }, 3, "ref.go:88", #[⟨0, .data⟩], none⟩ ?_ (.inl ⟨by rfl, ?_⟩) hS ?_
                rotate_left
                · (intro w hSw; (try dsimp only at hSw); go_simp; (try with_reducible rfl))
                try simp only [Act.put, sb, s0, sz]
                refine takeW 2 ⟨some 34, .binOp .eql 3 (.tmp 33) (.const (.int .i64 0)) 3, 4, "ref.go:88", #[⟨1, .data⟩], none⟩ ?_ (.inl ⟨by rfl, ?_⟩) hS ?_
                rotate_left
                · (intro w hSw; (try dsimp only at hSw); go_simp; (try with_reducible rfl))
                try simp only [Act.put, sb, s0, sz]
                refine takeW 3 ⟨some 35, .move (.tmp 34), 4, "ref.go:88", #[⟨2, .data⟩], none⟩ ?_ (.inl ⟨by rfl, ?_⟩) hS ?_
                rotate_left
                · (intro w hSw; (try dsimp only at hSw); go_simp; (try with_reducible rfl))
                try simp only [Act.put, sb, s0, sz]
                refine takeW 4 ⟨some 36, .fieldAddr 41 (.tmp 9) 0, 0, "ref.go:88", #[⟨3, .guard⟩], some (3, false)⟩ undef (.inr ⟨by rfl, rfl⟩) hS ?_; try simp only [Act.put, sb, s0, sz]
                refine takeW 5 ⟨some 37, .load 9 (.tmp 36), 9, "ref.go:88", #[⟨4, .data⟩, ⟨3, .guard⟩], some (3, false)⟩ undef (.inr ⟨by rfl, rfl⟩) hS ?_; try simp only [Act.put, sb, s0, sz]
                refine takeW 6 ⟨some 38, .move (.tmp 6), 22, "ref.go:88", #[⟨3, .guard⟩], some (3, false)⟩ undef (.inr ⟨by rfl, rfl⟩) hS ?_; try simp only [Act.put, sb, s0, sz]
                refine takeW 7 ⟨some 39, .move (.tmp 6), 22, "ref.go:88", #[⟨3, .guard⟩], some (3, false)⟩ undef (.inr ⟨by rfl, rfl⟩) hS ?_; try simp only [Act.put, sb, s0, sz]
                refine takeW 8 ⟨some 40, .call { callee := .builtin .len, args := #[.tmp 39], argTypes := #[22] }, 3, "ref.go:88", #[⟨7, .data⟩, ⟨3, .guard⟩], some (3, false)⟩ undef (.inr ⟨by rfl, rfl⟩) hS ?_; try simp only [Act.put, sb, s0, sz]
                refine takeW 9 ⟨some 41, .binOp .sub 3 (.tmp 40) (.const (.int .i64 1)) 3, 3, "ref.go:88", #[⟨8, .data⟩, ⟨3, .guard⟩], some (3, false)⟩ undef (.inr ⟨by rfl, rfl⟩) hS ?_; try simp only [Act.put, sb, s0, sz]
                refine takeW 10 ⟨some 42, .indexAddr 22 (.tmp 38) (.tmp 41), 0, "ref.go:88", #[⟨6, .data⟩, ⟨9, .data⟩, ⟨3, .guard⟩], some (3, false)⟩ undef (.inr ⟨by rfl, rfl⟩) hS ?_; try simp only [Act.put, sb, s0, sz]
                refine takeW 11 ⟨some 43, .fieldAddr 41 (.tmp 42) 0, 0, "ref.go:88", #[⟨10, .data⟩, ⟨3, .guard⟩], some (3, false)⟩ undef (.inr ⟨by rfl, rfl⟩) hS ?_; try simp only [Act.put, sb, s0, sz]
                refine takeW 12 ⟨some 44, .load 9 (.tmp 43), 9, "ref.go:88", #[⟨11, .data⟩, ⟨3, .guard⟩], some (3, false)⟩ undef (.inr ⟨by rfl, rfl⟩) hS ?_; try simp only [Act.put, sb, s0, sz]
                refine takeW 13 ⟨some 45, .binOp .gtr 9 (.tmp 37) (.tmp 44) 9, 4, "ref.go:88", #[⟨5, .data⟩, ⟨12, .data⟩, ⟨3, .guard⟩], some (3, false)⟩ undef (.inr ⟨by rfl, rfl⟩) hS ?_; try simp only [Act.put, sb, s0, sz]
                refine takeW 14 ⟨some 46, .pick (.tmp 35) (.const (.bool true)) (.tmp 45), 4, "ref.go:88", #[⟨3, .data⟩, ⟨13, .data⟩], none⟩ ?_ (.inl ⟨by rfl, ?_⟩) hS ?_
                rotate_left
                · (intro w hSw; (try dsimp only at hSw); go_simp; (try with_reducible rfl))
                try simp only [Act.put, sb, s0, sz]
                refine takeW 15 ⟨some 47, .move (.tmp 46), 4, "ref.go:88", #[⟨14, .data⟩, ⟨3, .chain⟩], none⟩ ?_ (.inl ⟨by rfl, ?_⟩) hS ?_
                rotate_left
                · (intro w hSw; (try dsimp only at hSw); go_simp; (try with_reducible rfl))
                try simp only [Act.put, sb, s0, sz]
                refine takeW 16 ⟨some 48, .move (.tmp 7), 3, "ref.go:88", #[⟨15, .guard⟩], some (15, true)⟩ ?_ (.inl ⟨by rfl, ?_⟩) hS ?_
                rotate_left
                · (intro w hSw; (try dsimp only at hSw); go_simp; (try with_reducible rfl))
                try simp only [Act.put, sb, s0, sz]
                refine takeW 17 ⟨some 49, .binOp .lss 3 (.tmp 48) (.const (.int .i64 0)) 3, 4, "ref.go:88", #[⟨16, .data⟩, ⟨15, .guard⟩], some (15, true)⟩ ?_ (.inl ⟨by rfl, ?_⟩) hS ?_
                rotate_left
                · (intro w hSw; (try dsimp only at hSw); go_simp; (try with_reducible rfl))
                try simp only [Act.put, sb, s0, sz]
                refine takeW 18 ⟨some 50, .move (.tmp 49), 4, "ref.go:88", #[⟨17, .data⟩, ⟨15, .chain⟩, ⟨15, .guard⟩], some (15, true)⟩ ?_ (.inl ⟨by rfl, ?_⟩) hS ?_
                rotate_left
                · (intro w hSw; (try dsimp only at hSw); go_simp; (try with_reducible rfl))
                try simp only [Act.put, sb, s0, sz]
                refine takeW 19 ⟨some 51, .fieldAddr 41 (.tmp 9) 0, 0, "ref.go:88", #[⟨18, .guard⟩], some (18, false)⟩ ?_ (.inl ⟨by rfl, ?_⟩) hS ?_
                rotate_left
                · (intro w hSw; (try dsimp only at hSw); go_simp; (try with_reducible rfl))
                try simp only [Act.put, sb, s0, sz]
                refine takeW 20 ⟨some 52, .load 9 (.tmp 51), 9, "ref.go:88", #[⟨19, .data⟩, ⟨18, .guard⟩], some (18, false)⟩ ?_ (.inl ⟨by rfl, ?_⟩) hS ?_
                rotate_left
                · (intro w hSw; (try dsimp only at hSw); go_simp; (try with_reducible rfl))
                try simp only [Act.put, sb, s0, sz]
                refine takeW 21 ⟨some 53, .fieldAddr 33 (.tmp 2) 0, 0, "ref.go:88", #[⟨18, .guard⟩], some (18, false)⟩ ?_ (.inl ⟨by rfl, ?_⟩) hS ?_
                rotate_left
                · (intro w hSw; (try dsimp only at hSw); go_simp; (try with_reducible rfl))
                try simp only [Act.put, sb, s0, sz]
                refine takeW 22 ⟨some 54, .load 22 (.tmp 53), 22, "ref.go:88", #[⟨21, .data⟩, ⟨18, .guard⟩], some (18, false)⟩ ?_ (.inl ⟨by rfl, ?_⟩) hS ?_
                rotate_left
                · (intro w hSw; (try dsimp only at hSw); go_simp; (try with_reducible rfl))
                try simp only [Act.put, sb, s0, sz]
                refine takeW 23 ⟨some 55, .move (.tmp 5), 72, "ref.go:88", #[⟨18, .guard⟩], some (18, false)⟩ ?_ (.inl ⟨by rfl, ?_⟩) hS ?_
                rotate_left
                · (intro w hSw; (try dsimp only at hSw); go_simp; (try with_reducible rfl))
                try simp only [Act.put, sb, s0, sz]
                refine takeW 24 ⟨some 56, .move (.tmp 7), 3, "ref.go:88", #[⟨18, .guard⟩], some (18, false)⟩ ?_ (.inl ⟨by rfl, ?_⟩) hS ?_
                rotate_left
                · (intro w hSw; (try dsimp only at hSw); go_simp; (try with_reducible rfl))
                try simp only [Act.put, sb, s0, sz]
                refine takeW 25 ⟨some 57, .indexAddr 72 (.tmp 55) (.tmp 56), 0, "ref.go:88", #[⟨23, .data⟩, ⟨24, .data⟩, ⟨18, .guard⟩], some (18, false)⟩ ?_ (.inl ⟨by rfl, ?_⟩) hS ?_
                rotate_left
                · (intro w hSw; (try dsimp only at hSw); go_simp; (try with_reducible rfl))
                try simp only [Act.put, sb, s0, sz]
                refine takeW 26 ⟨some 58, .load 3 (.tmp 57), 3, "ref.go:88", #[⟨25, .data⟩, ⟨18, .guard⟩], some (18, false)⟩ ?_ (.inl ⟨by rfl, ?_⟩) hS ?_
                rotate_left
                · (intro w hSw; (try dsimp only at hSw); go_simp; (try with_reducible rfl))
                try simp only [Act.put, sb, s0, sz]
                refine takeW 27 ⟨some 59, .indexAddr 22 (.tmp 54) (.tmp 58), 0, "ref.go:88", #[⟨22, .data⟩, ⟨26, .data⟩, ⟨18, .guard⟩], some (18, false)⟩ ?_ (.inl ⟨by rfl, ?_⟩) hS ?_
                rotate_left
                · (intro w hSw; (try dsimp only at hSw); go_simp; (try with_reducible rfl))
                try simp only [Act.put, sb, s0, sz]
                refine takeW 28 ⟨some 60, .fieldAddr 41 (.tmp 59) 0, 0, "ref.go:88", #[⟨27, .data⟩, ⟨18, .guard⟩], some (18, false)⟩ ?_ (.inl ⟨by rfl, ?_⟩) hS ?_
                rotate_left
                · (intro w hSw; (try dsimp only at hSw); go_simp; (try with_reducible rfl))
                try simp only [Act.put, sb, s0, sz]
                refine takeW 29 ⟨some 61, .load 9 (.tmp 60), 9, "ref.go:88", #[⟨28, .data⟩, ⟨18, .guard⟩], some (18, false)⟩ ?_ (.inl ⟨by rfl, ?_⟩) hS ?_
                rotate_left
                · (intro w hSw; (try dsimp only at hSw); go_simp; (try with_reducible rfl))
                try simp only [Act.put, sb, s0, sz]
                refine takeW 30 ⟨some 62, .binOp .lss 9 (.tmp 52) (.tmp 61) 9, 4, "ref.go:88", #[⟨20, .data⟩, ⟨29, .data⟩, ⟨18, .guard⟩], some (18, false)⟩ ?_ (.inl ⟨by rfl, ?_⟩) hS ?_
                rotate_left
                · (intro w hSw; (try dsimp only at hSw); go_simp; (try with_reducible rfl))
                try simp only [Act.put, sb, s0, sz]
                refine takeW 31 ⟨some 63, .pick (.tmp 50) (.const (.bool true)) (.tmp 62), 4, "ref.go:88", #[⟨18, .data⟩, ⟨30, .data⟩, ⟨15, .guard⟩], some (15, true)⟩ ?_ (.inl ⟨by rfl, ?_⟩) hS ?_
                rotate_left
                · (intro w hSw; (try dsimp only at hSw); go_simp; (try with_reducible rfl))
                try simp only [Act.put, sb, s0, sz]
                refine takeW 32 ⟨some 64, .pick (.tmp 47) (.tmp 63) (.const (.bool false)), 4, "ref.go:88", #[⟨15, .data⟩, ⟨31, .data⟩], none⟩ ?_ (.inl ⟨by rfl, ?_⟩) hS ?_
                rotate_left
                · (intro w hSw; (try dsimp only at hSw); go_simp; (try with_reducible rfl))
                try simp only [Act.put, sb, s0, sz]
                refine wpAnyH_done (by kernel_rfl) ?_ _
                clear hS
                go_wp2
                go_roundw
                case rel => exact ⟨j + 1, by omega, by first | rfl | simp, HB.out, hE.drew.tail⟩
                case measure => simp [intOf] <;> omega
          · have hkp : 0 < k := by omega
            obtain ⟨gr, rfl, _, _⟩ := hE.rowIs 1 rfl (by omega)
            have HR := SL.hid (hrowk.out hkp)
            have HD1 := SL.hid (HC1.out hkp)
            have HD2 := SL.hid (HC2.out hkp)
            obtain ⟨lp, hlp⟩ : ∃ x, (S[k - 1]'(by omega)).path = x := ⟨_, rfl⟩
            simp only [hlp] at HR HD1 HD2
            clear hlp hrowk HC0 HC1 HC2
            obtain ⟨i, hi⟩ : ∃ i, k - 1 = i := ⟨_, rfl⟩
            have hwk1 : wrap64 ((k : Int) - 1) = (i : Int) := by unfold wrap64; omega
            have hwk2 : IntKind.i64.wrap ((k : Int) - 1) = (i : Int) := by
              simp only [IntKind.wrap, IntKind.bits, IntKind.signed]
              simp
              omega
            have hik : (i : Int) < (k : Int) := by omega
            have hkz : ((k : Int) == 0) = false := by simp; omega
            rw [hi] at HR
            clear hi
            cases hx1 : Op.bytesLess xp lp with
            | true =>
              have HB := SL.hid (hbest.skip hj (HD2.out (bl_asymm hx1)))
              clear hbest HD1 HD2
              go_wp2
              refine wp_region_held_drew (S := (fun w' => ((Instr.loadAt 9 (.pointer (some ⟨b9, 0, none⟩))).run Tryd.prog w' = .ok (.string ⟨xp.toArray⟩) w') ∧ ((Instr.loadAt 9 (.pointer (some ⟨gr, i * 3, none⟩))).run Tryd.prog w' = .ok (.string ⟨lp.toArray⟩) w'))) (by kernel_rfl) ⟨(atVm hE.drew (by repeat (first | exact List.Mem.head _ | refine List.Mem.tail _ ?_)) (by simp [go_sem]) rfl), (HR.out _ _ _ hE.drew.tail)⟩ (fun hS => ?_)
              refine takeW 0 ⟨some 32, .move (.tmp 6), 22, "ref.go:88", #[], none⟩ ?_ (.inl ⟨by rfl, ?_⟩) hS ?_
              rotate_left
              · (intro w hSw; (try dsimp only at hSw); go_simp; (try with_reducible rfl))
              try simp only [Act.put, sb, s0, sz]
              refine takeW 1 ⟨some 33, .call { callee := .builtin .len, args := #[.tmp 32], argTypes := #[22] }, 3, "ref.go:88", #[⟨0, .data⟩], none⟩ ?_ (.inl ⟨by rfl, ?_⟩) hS ?_
              rotate_left
              · (intro w hSw; (try dsimp only at hSw); go_simp; (try with_reducible rfl))
              try simp only [Act.put, sb, s0, sz]
              refine takeW 2 ⟨some 34, .binOp .eql 3 (.tmp 33) (.const (.int .i64 0)) 3, 4, "ref.go:88", #[⟨1, .data⟩], none⟩ ?_ (.inl ⟨by rfl, ?_⟩) hS ?_
              rotate_left
              · (intro w hSw; (try dsimp only at hSw); go_simp; (try with_reducible rfl))
              try simp only [Act.put, sb, s0, sz]
              refine takeW 3 ⟨some 35, .move (.tmp 34), 4, "ref.go:88", #[⟨2, .data⟩], none⟩ ?_ (.inl ⟨by rfl, ?_⟩) hS ?_
              rotate_left
              · (intro w hSw; (try dsimp only at hSw); go_simp; (try with_reducible rfl))
              try simp only [Act.put, sb, s0, sz]
              refine takeW 4 ⟨some 36, .fieldAddr 41 (.tmp 9) 0, 0, "ref.go:88", #[⟨3, .guard⟩], some (3, false)⟩ ?_ (.inl ⟨by rfl, ?_⟩) hS ?_
              rotate_left
              · (intro w hSw; (try dsimp only at hSw); go_simp; (try with_reducible rfl))
              try simp only [Act.put, sb, s0, sz]
              refine takeW 5 ⟨some 37, .load 9 (.tmp 36), 9, "ref.go:88", #[⟨4, .data⟩, ⟨3, .guard⟩], some (3, false)⟩ ?_ (.inl ⟨by rfl, ?_⟩) hS ?_
              rotate_left
              · (intro w hSw; (try dsimp only at hSw); go_simp; (try with_reducible rfl))
              try simp only [Act.put, sb, s0, sz]
              refine takeW 6 ⟨some 38, .move (.tmp 6), 22, "ref.go:88", #[⟨3, .guard⟩], some (3, false)⟩ ?_ (.inl ⟨by rfl, ?_⟩) hS ?_
              rotate_left
              · (intro w hSw; (try dsimp only at hSw); go_simp; (try with_reducible rfl))
              try simp only [Act.put, sb, s0, sz]
              refine takeW 7 ⟨some 39, .move (.tmp 6), 22, "ref.go:88", #[⟨3, .guard⟩], some (3, false)⟩ ?_ (.inl ⟨by rfl, ?_⟩) hS ?_
              rotate_left
              · (intro w hSw; (try dsimp only at hSw); go_simp; (try with_reducible rfl))
              try simp only [Act.put, sb, s0, sz]
              refine takeW 8 ⟨some 40, .call { callee := .builtin .len, args := #[.tmp 39], argTypes := #[22] }, 3, "ref.go:88", #[⟨7, .data⟩, ⟨3, .guard⟩], some (3, false)⟩ ?_ (.inl ⟨by rfl, ?_⟩) hS ?_
              rotate_left
              · (intro w hSw; (try dsimp only at hSw); go_simp; (try with_reducible rfl))
              try simp only [Act.put, sb, s0, sz]
              refine takeW 9 ⟨some 41, .binOp .sub 3 (.tmp 40) (.const (.int .i64 1)) 3, 3, "ref.go:88", #[⟨8, .data⟩, ⟨3, .guard⟩], some (3, false)⟩ ?_ (.inl ⟨by rfl, ?_⟩) hS ?_
              rotate_left
              · (intro w hSw; (try dsimp only at hSw); go_simp; (try with_reducible rfl))
              try simp only [Act.put, sb, s0, sz]
              refine takeW 10 ⟨some 42, .indexAddr 22 (.tmp 38) (.tmp 41), 0, "ref.go:88", #[⟨6, .data⟩, ⟨9, .data⟩, ⟨3, .guard⟩], some (3, false)⟩ ?_ (.inl ⟨by rfl, ?_⟩) hS ?_
              rotate_left
              · (intro w hSw; (try dsimp only at hSw); go_simp; (try with_reducible rfl))
              try simp only [Act.put, sb, s0, sz]
              refine takeW 11 ⟨some 43, .fieldAddr 41 (.tmp 42) 0, 0, "ref.go:88", #[⟨10, .data⟩, ⟨3, .guard⟩], some (3, false)⟩ ?_ (.inl ⟨by rfl, ?_⟩) hS ?_
              rotate_left
              · (intro w hSw; (try dsimp only at hSw); go_simp; (try with_reducible rfl))
              try simp only [Act.put, sb, s0, sz]
              refine takeW 12 ⟨some 44, .load 9 (.tmp 43), 9, "ref.go:88", #[⟨11, .data⟩, ⟨3, .guard⟩], some (3, false)⟩ ?_ (.inl ⟨by rfl, ?_⟩) hS ?_
              rotate_left
              · (intro w hSw; (try dsimp only at hSw); go_simp; (try with_reducible rfl))
              try simp only [Act.put, sb, s0, sz]
              refine takeW 13 ⟨some 45, .binOp .gtr 9 (.tmp 37) (.tmp 44) 9, 4, "ref.go:88", #[⟨5, .data⟩, ⟨12, .data⟩, ⟨3, .guard⟩], some (3, false)⟩ ?_ (.inl ⟨by rfl, ?_⟩) hS ?_
              rotate_left
              · (intro w hSw; (try dsimp only at hSw); go_simp; (try with_reducible rfl))
              try simp only [Act.put, sb, s0, sz]
              refine takeW 14 ⟨some 46, .pick (.tmp 35) (.const (.bool true)) (.tmp 45), 4, "ref.go:88", #[⟨3, .data⟩, ⟨13, .data⟩], none⟩ ?_ (.inl ⟨by rfl, ?_⟩) hS ?_
              rotate_left
              · (intro w hSw; (try dsimp only at hSw); go_simp; (try with_reducible rfl))
              try simp only [Act.put, sb, s0, sz]
              refine takeW 15 ⟨some 47, .move (.tmp 46), 4, "ref.go:88", #[⟨14, .data⟩, ⟨3, .chain⟩], none⟩ ?_ (.inl ⟨by rfl, ?_⟩) hS ?_
              rotate_left
              · (intro w hSw; (try dsimp only at hSw); go_simp; (try with_reducible rfl))
              try simp only [Act.put, sb, s0, sz]
              refine takeW 16 ⟨some 48, .move (.tmp 7), 3, "ref.go:88", #[⟨15, .guard⟩], some (15, true)⟩ undef (.inr ⟨by rfl, rfl⟩) hS ?_; try simp only [Act.put, sb, s0, sz]
              refine takeW 17 ⟨some 49, .binOp .lss 3 (.tmp 48) (.const (.int .i64 0)) 3, 4, "ref.go:88", #[⟨16, .data⟩, ⟨15, .guard⟩], some (15, true)⟩ undef (.inr ⟨by rfl, rfl⟩) hS ?_; try simp only [Act.put, sb, s0, sz]
              refine takeW 18 ⟨some 50, .move (.tmp 49), 4, "ref.go:88", #[⟨17, .data⟩, ⟨15, .chain⟩, ⟨15, .guard⟩], some (15, true)⟩ undef (.inr ⟨by rfl, rfl⟩) hS ?_; try simp only [Act.put, sb, s0, sz]
              refine takeW 19 ⟨some 51, .fieldAddr 41 (.tmp 9) 0, 0, "ref.go:88", #[⟨18, .guard⟩], some (18, false)⟩ undef (.inr ⟨by rfl, rfl⟩) hS ?_; try simp only [Act.put, sb, s0, sz]
              refine takeW 20 ⟨some 52, .load 9 (.tmp 51), 9, "ref.go:88", #[⟨19, .data⟩, ⟨18, .guard⟩], some (18, false)⟩ undef (.inr ⟨by rfl, rfl⟩) hS ?_; try simp only [Act.put, sb, s0, sz]
              refine takeW 21 ⟨some 53, .fieldAddr 33 (.tmp 2) 0, 0, "ref.go:88", #[⟨18, .guard⟩], some (18, false)⟩ undef (.inr ⟨by rfl, rfl⟩) hS ?_; try simp only [Act.put, sb, s0, sz]
              refine takeW 22 ⟨some 54, .load 22 (.tmp 53), 22, "ref.go:88", #[⟨21, .data⟩, ⟨18, .guard⟩], some (18, false)⟩ undef (.inr ⟨by rfl, rfl⟩) hS ?_; try simp only [Act.put, sb, s0, sz]
              refine takeW 23 ⟨some 55, .move (.tmp 5), 72, "ref.go:88", #[⟨18, .guard⟩], some (18, false)⟩ undef (.inr ⟨by rfl, rfl⟩) hS ?_; try simp only [Act.put, sb, s0, sz]
              refine takeW 24 ⟨some 56, .move (.tmp 7), 3, "ref.go:88", #[⟨18, .guard⟩], some (18, false)⟩ undef (.inr ⟨by rfl, rfl⟩) hS ?_; try simp only [Act.put, sb, s0, sz]
              refine takeW 25 ⟨some 57, .indexAddr 72 (.tmp 55) (.tmp 56), 0, "ref.go:88", #[⟨23, .data⟩, ⟨24, .data⟩, ⟨18, .guard⟩], some (18, false)⟩ undef (.inr ⟨by rfl, rfl⟩) hS ?_; try simp only [Act.put, sb, s0, sz]
              refine takeW 26 ⟨some 58, .load 3 (.tmp 57), 3, "ref.go:88", #[⟨25, .data⟩, ⟨18, .guard⟩], some (18, false)⟩ undef (.inr ⟨by rfl, rfl⟩) hS ?_; try simp only [Act.put, sb, s0, sz]
              refine takeW 27 ⟨some 59, .indexAddr 22 (.tmp 54) (.tmp 58), 0, "ref.go:88", #[⟨22, .data⟩, ⟨26, .data⟩, ⟨18, .guard⟩], some (18, false)⟩ undef (.inr ⟨by rfl, rfl⟩) hS ?_; try simp only [Act.put, sb, s0, sz]
              refine takeW 28 ⟨some 60, .fieldAddr 41 (.tmp 59) 0, 0, "ref.go:88", #[⟨27, .data⟩, ⟨18, .guard⟩], some (18, false)⟩ undef (.inr ⟨by rfl, rfl⟩) hS ?_; try simp only [Act.put, sb, s0, sz]
              refine takeW 29 ⟨some 61, .load 9 (.tmp 60), 9, "ref.go:88", #[⟨28, .data⟩, ⟨18, .guard⟩], some (18, false)⟩ undef (.inr ⟨by rfl, rfl⟩) hS ?_; try simp only [Act.put, sb, s0, sz]
              refine takeW 30 ⟨some 62, .binOp .lss 9 (.tmp 52) (.tmp 61) 9, 4, "ref.go:88", #[⟨20, .data⟩, ⟨29, .data⟩, ⟨18, .guard⟩], some (18, false)⟩ undef (.inr ⟨by rfl, rfl⟩) hS ?_; try simp only [Act.put, sb, s0, sz]
              refine takeW 31 ⟨some 63, .pick (.tmp 50) (.const (.bool true)) (.tmp 62), 4, "ref.go:88", #[⟨18, .data⟩, ⟨30, .data⟩, ⟨15, .guard⟩], some (15, true)⟩ undef (.inr ⟨by rfl, rfl⟩) hS ?_; try simp only [Act.put, sb, s0, sz]
              refine takeW 32 ⟨some 64, .pick (.tmp 47) (.tmp 63) (.const (.bool false)), 4, "ref.go:88", #[⟨15, .data⟩, ⟨31, .data⟩], none⟩ ?_ (.inl ⟨by rfl, ?_⟩) hS ?_
              rotate_left
              · (intro w hSw; (try dsimp only at hSw); go_simp; (try with_reducible rfl))
              try simp only [Act.put, sb, s0, sz]
              refine wpAnyH_done (by kernel_rfl) ?_ _
              clear hS
              go_wp2
              go_roundw
              case rel => exact ⟨j + 1, by omega, by first | rfl | simp, HB.out, hE.drew.tail⟩
              case measure => simp [intOf] <;> omega
            | false =>
              cases hx2 : (xp == lp) with
              | true =>
                have HB := SL.hid (hbest.skip hj (HD2.out (by rw [eq_of_beq hx2]; exact bl_irrefl _)))
                clear hbest HD1 HD2
                go_wp2
                refine wp_region_held_drew (S := (fun w' => ((Instr.loadAt 9 (.pointer (some ⟨b9, 0, none⟩))).run Tryd.prog w' = .ok (.string ⟨xp.toArray⟩) w') ∧ ((Instr.loadAt 9 (.pointer (some ⟨gr, i * 3, none⟩))).run Tryd.prog w' = .ok (.string ⟨lp.toArray⟩) w'))) (by kernel_rfl) ⟨(atVm hE.drew (by repeat (first | exact List.Mem.head _ | refine List.Mem.tail _ ?_)) (by simp [go_sem]) rfl), (HR.out _ _ _ hE.drew.tail)⟩ (fun hS => ?_)
                refine takeW 0 ⟨some 32, .move (.tmp 6), 22, "ref.go:88", #[], none⟩ ?_ (.inl ⟨by rfl, ?_⟩) hS ?_
                rotate_left
                · (intro w hSw; (try dsimp only at hSw); go_simp; (try with_reducible rfl))
                try simp only [Act.put, sb, s0, sz]
                refine takeW 1 ⟨some 33, .call { callee := .builtin .len, args := #[.tmp 32], argTypes := #[22] }, 3, "ref.go:88", #[⟨0, .data⟩], none⟩ ?_ (.inl ⟨by rfl, ?_⟩) hS ?_
                rotate_left
                · (intro w hSw; (try dsimp only at hSw); go_simp; (try with_reducible rfl))
                try simp only [Act.put, sb, s0, sz]
                refine takeW 2 ⟨some 34, .binOp .eql 3 (.tmp 33) (.const (.int .i64 0)) 3, 4, "ref.go:88", #[⟨1, .data⟩], none⟩ ?_ (.inl ⟨by rfl, ?_⟩) hS ?_
                rotate_left
                · (intro w hSw; (try dsimp only at hSw); go_simp; (try with_reducible rfl))
                try simp only [Act.put, sb, s0, sz]
                refine takeW 3 ⟨some 35, .move (.tmp 34), 4, "ref.go:88", #[⟨2, .data⟩], none⟩ ?_ (.inl ⟨by rfl, ?_⟩) hS ?_
                rotate_left
                · (intro w hSw; (try dsimp only at hSw); go_simp; (try with_reducible rfl))
                try simp only [Act.put, sb, s0, sz]
                refine takeW 4 ⟨some 36, .fieldAddr 41 (.tmp 9) 0, 0, "ref.go:88", #[⟨3, .guard⟩], some (3, false)⟩ ?_ (.inl ⟨by rfl, ?_⟩) hS ?_
                rotate_left
                · (intro w hSw; (try dsimp only at hSw); go_simp; (try with_reducible rfl))
                try simp only [Act.put, sb, s0, sz]
                refine takeW 5 ⟨some 37, .load 9 (.tmp 36), 9, "ref.go:88", #[⟨4, .data⟩, ⟨3, .guard⟩], some (3, false)⟩ ?_ (.inl ⟨by rfl, ?_⟩) hS ?_
                rotate_left
                · (intro w hSw; (try dsimp only at hSw); go_simp; (try with_reducible rfl))
                try simp only [Act.put, sb, s0, sz]
                refine takeW 6 ⟨some 38, .move (.tmp 6), 22, "ref.go:88", #[⟨3, .guard⟩], some (3, false)⟩ ?_ (.inl ⟨by rfl, ?_⟩) hS ?_
                rotate_left
                · (intro w hSw; (try dsimp only at hSw); go_simp; (try with_reducible rfl))
                try simp only [Act.put, sb, s0, sz]
                refine takeW 7 ⟨some 39, .move (.tmp 6), 22, "ref.go:88", #[⟨3, .guard⟩], some (3, false)⟩ ?_ (.inl ⟨by rfl, ?_⟩) hS ?_
                rotate_left
                · (intro w hSw; (try dsimp only at hSw); go_simp; (try with_reducible rfl))
                try simp only [Act.put, sb, s0, sz]
                refine takeW 8 ⟨some 40, .call { callee := .builtin .len, args := #[.tmp 39], argTypes := #[22] }, 3, "ref.go:88", #[⟨7, .data⟩, ⟨3, .guard⟩], some (3, false)⟩ ?_ (.inl ⟨by rfl, ?_⟩) hS ?_
                rotate_left
                · (intro w hSw; (try dsimp only at hSw); go_simp; (try with_reducible rfl))
                try simp only [Act.put, sb, s0, sz]
                refine takeW 9 ⟨some 41, .binOp .sub 3 (.tmp 40) (.const (.int .i64 1)) 3, 3, "ref.go:88", #[⟨8, .data⟩, ⟨3, .guard⟩], some (3, false)⟩ ?_ (.inl ⟨by rfl, ?_⟩) hS ?_
                rotate_left
                · (intro w hSw; (try dsimp only at hSw); go_simp; (try with_reducible rfl))
                try simp only [Act.put, sb, s0, sz]
                refine takeW 10 ⟨some 42, .indexAddr 22 (.tmp 38) (.tmp 41), 0, "ref.go:88", #[⟨6, .data⟩, ⟨9, .data⟩, ⟨3, .guard⟩], some (3, false)⟩ ?_ (.inl ⟨by rfl, ?_⟩) hS ?_
                rotate_left
                · (intro w hSw; (try dsimp only at hSw); go_simp; (try with_reducible rfl))
                try simp only [Act.put, sb, s0, sz]
                refine takeW 11 ⟨some 43, .fieldAddr 41 (.tmp 42) 0, 0, "ref.go:88", #[⟨10, .data⟩, ⟨3, .guard⟩], some (3, false)⟩ ?_ (.inl ⟨by rfl, ?_⟩) hS ?_
                rotate_left
                · (intro w hSw; (try dsimp only at hSw); go_simp; (try with_reducible rfl))
                try simp only [Act.put, sb, s0, sz]
                refine takeW 12 ⟨some 44, .load 9 (.tmp 43), 9, "ref.go:88", #[⟨11, .data⟩, ⟨3, .guard⟩], some (3, false)⟩ ?_ (.inl ⟨by rfl, ?_⟩) hS ?_
                rotate_left
                · (intro w hSw; (try dsimp only at hSw); go_simp; (try with_reducible rfl))
                try simp only [Act.put, sb, s0, sz]
                refine takeW 13 ⟨some 45, .binOp .gtr 9 (.tmp 37) (.tmp 44) 9, 4, "ref.go:88", #[⟨5, .data⟩, ⟨12, .data⟩, ⟨3, .guard⟩], some (3, false)⟩ ?_ (.inl ⟨by rfl, ?_⟩) hS ?_
                rotate_left
                · (intro w hSw; (try dsimp only at hSw); go_simp; (try with_reducible rfl))
                try simp only [Act.put, sb, s0, sz]
                refine takeW 14 ⟨some 46, .pick (.tmp 35) (.const (.bool true)) (.tmp 45), 4, "ref.go:88", #[⟨3, .data⟩, ⟨13, .data⟩], none⟩ ?_ (.inl ⟨by rfl, ?_⟩) hS ?_
                rotate_left
                · (intro w hSw; (try dsimp only at hSw); go_simp; (try with_reducible rfl))
                try simp only [Act.put, sb, s0, sz]
                refine takeW 15 ⟨some 47, .move (.tmp 46), 4, "ref.go:88", #[⟨14, .data⟩, ⟨3, .chain⟩], none⟩ ?_ (.inl ⟨by rfl, ?_⟩) hS ?_
                rotate_left
                · (intro w hSw; (try dsimp only at hSw); go_simp; (try with_reducible rfl))
                try simp only [Act.put, sb, s0, sz]
                refine takeW 16 ⟨some 48, .move (.tmp 7), 3, "ref.go:88", #[⟨15, .guard⟩], some (15, true)⟩ undef (.inr ⟨by rfl, rfl⟩) hS ?_; try simp only [Act.put, sb, s0, sz]
                refine takeW 17 ⟨some 49, .binOp .lss 3 (.tmp 48) (.const (.int .i64 0)) 3, 4, "ref.go:88", #[⟨16, .data⟩, ⟨15, .guard⟩], some (15, true)⟩ undef (.inr ⟨by rfl, rfl⟩) hS ?_; try simp only [Act.put, sb, s0, sz]
                refine takeW 18 ⟨some 50, .move (.tmp 49), 4, "ref.go:88", #[⟨17, .data⟩, ⟨15, .chain⟩, ⟨15, .guard⟩], some (15, true)⟩ undef (.inr ⟨by rfl, rfl⟩) hS ?_; try simp only [Act.put, sb, s0, sz]
                refine takeW 19 ⟨some 51, .fieldAddr 41 (.tmp 9) 0, 0, "ref.go:88", #[⟨18, .guard⟩], some (18, false)⟩ undef (.inr ⟨by rfl, rfl⟩) hS ?_; try simp only [Act.put, sb, s0, sz]
                refine takeW 20 ⟨some 52, .load 9 (.tmp 51), 9, "ref.go:88", #[⟨19, .data⟩, ⟨18, .guard⟩], some (18, false)⟩ undef (.inr ⟨by rfl, rfl⟩) hS ?_; try simp only [Act.put, sb, s0, sz]
                refine takeW 21 ⟨some 53, .fieldAddr 33 (.tmp 2) 0, 0, "ref.go:88", #[⟨18, .guard⟩], some (18, false)⟩ undef (.inr ⟨by rfl, rfl⟩) hS ?_; try simp only [Act.put, sb, s0, sz]
                refine takeW 22 ⟨some 54, .load 22 (.tmp 53), 22, "ref.go:88", #[⟨21, .data⟩, ⟨18, .guard⟩], some (18, false)⟩ undef (.inr ⟨by rfl, rfl⟩) hS ?_; try simp only [Act.put, sb, s0, sz]
                refine takeW 23 ⟨some 55, .move (.tmp 5), 72, "ref.go:88", #[⟨18, .guard⟩], some (18, false)⟩ undef (.inr ⟨by rfl, rfl⟩) hS ?_; try simp only [Act.put, sb, s0, sz]
                refine takeW 24 ⟨some 56, .move (.tmp 7), 3, "ref.go:88", #[⟨18, .guard⟩], some (18, false)⟩ undef (.inr ⟨by rfl, rfl⟩) hS ?_; try simp only [Act.put, sb, s0, sz]
                refine takeW 25 ⟨some 57, .indexAddr 72 (.tmp 55) (.tmp 56), 0, "ref.go:88", #[⟨23, .data⟩, ⟨24, .data⟩, ⟨18, .guard⟩], some (18, false)⟩ undef (.inr ⟨by rfl, rfl⟩) hS ?_; try simp only [Act.put, sb, s0, sz]
                refine takeW 26 ⟨some 58, .load 3 (.tmp 57), 3, "ref.go:88", #[⟨25, .data⟩, ⟨18, .guard⟩], some (18, false)⟩ undef (.inr ⟨by rfl, rfl⟩) hS ?_; try simp only [Act.put, sb, s0, sz]
                refine takeW 27 ⟨some 59, .indexAddr 22 (.tmp 54) (.tmp 58), 0, "ref.go:88", #[⟨22, .data⟩, ⟨26, .data⟩, ⟨18, .guard⟩], some (18, false)⟩ undef (.inr ⟨by rfl, rfl⟩) hS ?_; try simp only [Act.put, sb, s0, sz]
                refine takeW 28 ⟨some 60, .fieldAddr 41 (.tmp 59) 0, 0, "ref.go:88", #[⟨27, .data⟩, ⟨18, .guard⟩], some (18, false)⟩ undef (.inr ⟨by rfl, rfl⟩) hS ?_; try simp only [Act.put, sb, s0, sz]
                refine takeW 29 ⟨some 61, .load 9 (.tmp 60), 9, "ref.go:88", #[⟨28, .data⟩, ⟨18, .guard⟩], some (18, false)⟩ undef (.inr ⟨by rfl, rfl⟩) hS ?_; try simp only [Act.put, sb, s0, sz]
                refine takeW 30 ⟨some 62, .binOp .lss 9 (.tmp 52) (.tmp 61) 9, 4, "ref.go:88", #[⟨20, .data⟩, ⟨29, .data⟩, ⟨18, .guard⟩], some (18, false)⟩ undef (.inr ⟨by rfl, rfl⟩) hS ?_; try simp only [Act.put, sb, s0, sz]
                refine takeW 31 ⟨some 63, .pick (.tmp 50) (.const (.bool true)) (.tmp 62), 4, "ref.go:88", #[⟨18, .data⟩, ⟨30, .data⟩, ⟨15, .guard⟩], some (15, true)⟩ undef (.inr ⟨by rfl, rfl⟩) hS ?_; try simp only [Act.put, sb, s0, sz]
                refine takeW 32 ⟨some 64, .pick (.tmp 47) (.tmp 63) (.const (.bool false)), 4, "ref.go:88", #[⟨15, .data⟩, ⟨31, .data⟩], none⟩ ?_ (.inl ⟨by rfl, ?_⟩) hS ?_
                rotate_left
                · (intro w hSw; (try dsimp only at hSw); go_simp; (try with_reducible rfl))
                try simp only [Act.put, sb, s0, sz]
                refine wpAnyH_done (by kernel_rfl) ?_ _
                clear hS
                go_wp2
                go_roundw
                case rel => exact ⟨j + 1, by omega, by first | rfl | simp, HB.out, hE.drew.tail⟩
                case measure => simp [intOf] <;> omega
              | false =>
                have HCand := SL.hid (HD1.out (bl_total (by simpa using hx2) hx1))
                clear HD1 HD2
                rcases hbest with ⟨rfl, hno⟩ | ⟨bb, hbb, hbj, rfl, hcb, hmin⟩
                · have HB := SL.hid (Best.first hno hj HCand.out)
                  clear hno
                  go_wp2
                  refine wp_region_held_drew (S := (fun w' => ((Instr.loadAt 9 (.pointer (some ⟨b9, 0, none⟩))).run Tryd.prog w' = .ok (.string ⟨xp.toArray⟩) w') ∧ ((Instr.loadAt 9 (.pointer (some ⟨gr, i * 3, none⟩))).run Tryd.prog w' = .ok (.string ⟨lp.toArray⟩) w'))) (by kernel_rfl) ⟨(atVm hE.drew (by repeat (first | exact List.Mem.head _ | refine List.Mem.tail _ ?_)) (by simp [go_sem]) rfl), (HR.out _ _ _ hE.drew.tail)⟩ (fun hS => ?_)
                  refine takeW 0 ⟨some 32, .move (.tmp 6), 22, "ref.go:88", #[], none⟩ ?_ (.inl ⟨by rfl, ?_⟩) hS ?_
                  rotate_left
                  · (intro w hSw; (try dsimp only at hSw); go_simp; (try with_reducible rfl))
                  try simp only [Act.put, sb, s0, sz]
                  refine takeW 1 ⟨some 33, .call { callee := .builtin .len, args := #[.tmp 32], argTypes := #[22] }, 3, "ref.go:88", #[⟨0, .data⟩], none⟩ ?_ (.inl ⟨by rfl, ?_⟩) hS ?_
                  rotate_left
                  · (intro w hSw; (try dsimp only at hSw); go_simp; (try with_reducible rfl))
                  try simp only [Act.put, sb, s0, sz]
                  refine takeW 2 ⟨some 34, .binOp .eql 3 (.tmp 33) (.const (.int .i64 0)) 3, 4, "ref.go:88", #[⟨1, .data⟩], none⟩ ?_ (.inl ⟨by rfl, ?_⟩) hS ?_
                  rotate_left
                  · (intro w hSw; (try dsimp only at hSw); go_simp; (try with_reducible rfl))
                  try simp only [Act.put, sb, s0, sz]
                  refine takeW 3 ⟨some 35, .move (.tmp 34), 4, "ref.go:88", #[⟨2, .data⟩], none⟩ ?_ (.inl ⟨by rfl, ?_⟩) hS ?_
                  rotate_left
                  · (intro w hSw; (try dsimp only at hSw); go_simp; (try with_reducible rfl))
                  try simp only [Act.put, sb, s0, sz]
                  refine takeW 4 ⟨some 36, .fieldAddr 41 (.tmp 9) 0, 0, "ref.go:88", #[⟨3, .guard⟩], some (3, false)⟩ ?_ (.inl ⟨by rfl, ?_⟩) hS ?_
                  rotate_left
                  · (intro w hSw; (try dsimp only at hSw); go_simp; (try with_reducible rfl))
                  try simp only [Act.put, sb, s0, sz]
                  refine takeW 5 ⟨some 37, .load 9 (.tmp 36), 9, "ref.go:88", #[⟨4, .data⟩, ⟨3, .guard⟩], some (3, false)⟩ ?_ (.inl ⟨by rfl, ?_⟩) hS ?_
                  rotate_left
                  · (intro w hSw; (try dsimp only at hSw); go_simp; (try with_reducible rfl))
                  try simp only [Act.put, sb, s0, sz]
                  refine takeW 6 ⟨some 38, .move (.tmp 6), 22, "ref.go:88", #[⟨3, .guard⟩], some (3, false)⟩ ?_ (.inl ⟨by rfl, ?_⟩) hS ?_
                  rotate_left
                  · (intro w hSw; (try dsimp only at hSw); go_simp; (try with_reducible rfl))
                  try simp only [Act.put, sb, s0, sz]
                  refine takeW 7 ⟨some 39, .move (.tmp 6), 22, "ref.go:88", #[⟨3, .guard⟩], some (3, false)⟩ ?_ (.inl ⟨by rfl, ?_⟩) hS ?_
                  rotate_left
                  · (intro w hSw; (try dsimp only at hSw); go_simp; (try with_reducible rfl))
                  try simp only [Act.put, sb, s0, sz]
                  refine takeW 8 ⟨some 40, .call { callee := .builtin .len, args := #[.tmp 39], argTypes := #[22] }, 3, "ref.go:88", #[⟨7, .data⟩, ⟨3, .guard⟩], some (3, false)⟩ ?_ (.inl ⟨by rfl, ?_⟩) hS ?_
                  rotate_left
                  · (intro w hSw; (try dsimp only at hSw); go_simp; (try with_reducible rfl))
                  try simp only [Act.put, sb, s0, sz]
                  refine takeW 9 ⟨some 41, .binOp .sub 3 (.tmp 40) (.const (.int .i64 1)) 3, 3, "ref.go:88", #[⟨8, .data⟩, ⟨3, .guard⟩], some (3, false)⟩ ?_ (.inl ⟨by rfl, ?_⟩) hS ?_
                  rotate_left
                  · (intro w hSw; (try dsimp only at hSw); go_simp; (try with_reducible rfl))
                  try simp only [Act.put, sb, s0, sz]
                  refine takeW 10 ⟨some 42, .indexAddr 22 (.tmp 38) (.tmp 41), 0, "ref.go:88", #[⟨6, .data⟩, ⟨9, .data⟩, ⟨3, .guard⟩], some (3, false)⟩ ?_ (.inl ⟨by rfl, ?_⟩) hS ?_
                  rotate_left
                  · (intro w hSw; (try dsimp only at hSw); go_simp; (try with_reducible rfl))
                  try simp only [Act.put, sb, s0, sz]
                  refine takeW 11 ⟨some 43, .fieldAddr 41 (.tmp 42) 0, 0, "ref.go:88", #[⟨10, .data⟩, ⟨3, .guard⟩], some (3, false)⟩ ?_ (.inl ⟨by rfl, ?_⟩) hS ?_
                  rotate_left
                  · (intro w hSw; (try dsimp only at hSw); go_simp; (try with_reducible rfl))
                  try simp only [Act.put, sb, s0, sz]
                  refine takeW 12 ⟨some 44, .load 9 (.tmp 43), 9, "ref.go:88", #[⟨11, .data⟩, ⟨3, .guard⟩], some (3, false)⟩ ?_ (.inl ⟨by rfl, ?_⟩) hS ?_
                  rotate_left
                  · (intro w hSw; (try dsimp only at hSw); go_simp; (try with_reducible rfl))
                  try simp only [Act.put, sb, s0, sz]
                  refine takeW 13 ⟨some 45, .binOp .gtr 9 (.tmp 37) (.tmp 44) 9, 4, "ref.go:88", #[⟨5, .data⟩, ⟨12, .data⟩, ⟨3, .guard⟩], some (3, false)⟩ ?_ (.inl ⟨by rfl, ?_⟩) hS ?_
                  rotate_left
                  · (intro w hSw; (try dsimp only at hSw); go_simp; (try with_reducible rfl))
                  try simp only [Act.put, sb, s0, sz]
                  refine takeW 14 ⟨some 46, .pick (.tmp 35) (.const (.bool true)) (.tmp 45), 4, "ref.go:88", #[⟨3, .data⟩, ⟨13, .data⟩], none⟩ ?_ (.inl ⟨by rfl, ?_⟩) hS ?_
                  rotate_left
                  · (intro w hSw; (try dsimp only at hSw); go_simp; (try with_reducible rfl))
                  try simp only [Act.put, sb, s0, sz]
                  refine takeW 15 ⟨some 47, .move (.tmp 46), 4, "ref.go:88", #[⟨14, .data⟩, ⟨3, .chain⟩], none⟩ ?_ (.inl ⟨by rfl, ?_⟩) hS ?_
                  rotate_left
                  · (intro w hSw; (try dsimp only at hSw); go_simp; (try with_reducible rfl))
                  try simp only [Act.put, sb, s0, sz]
                  refine takeW 16 ⟨some 48, .move (.tmp 7), 3, "ref.go:88", #[⟨15, .guard⟩], some (15, true)⟩ ?_ (.inl ⟨by rfl, ?_⟩) hS ?_
                  rotate_left
                  · (intro w hSw; (try dsimp only at hSw); go_simp; (try with_reducible rfl))
                  try simp only [Act.put, sb, s0, sz]
                  refine takeW 17 ⟨some 49, .binOp .lss 3 (.tmp 48) (.const (.int .i64 0)) 3, 4, "ref.go:88", #[⟨16, .data⟩, ⟨15, .guard⟩], some (15, true)⟩ ?_ (.inl ⟨by rfl, ?_⟩) hS ?_
                  rotate_left
                  · (intro w hSw; (try dsimp only at hSw); go_simp; (try with_reducible rfl))
                  try simp only [Act.put, sb, s0, sz]
                  refine takeW 18 ⟨some 50, .move (.tmp 49), 4, "ref.go:88", #[⟨17, .data⟩, ⟨15, .chain⟩, ⟨15, .guard⟩], some (15, true)⟩ ?_ (.inl ⟨by rfl, ?_⟩) hS ?_
                  rotate_left
                  · (intro w hSw; (try dsimp only at hSw); go_simp; (try with_reducible rfl))
                  try simp only [Act.put, sb, s0, sz]
                  refine takeW 19 ⟨some 51, .fieldAddr 41 (.tmp 9) 0, 0, "ref.go:88", #[⟨18, .guard⟩], some (18, false)⟩ undef (.inr ⟨by rfl, rfl⟩) hS ?_; try simp only [Act.put, sb, s0, sz]
                  refine takeW 20 ⟨some 52, .load 9 (.tmp 51), 9, "ref.go:88", #[⟨19, .data⟩, ⟨18, .guard⟩], some (18, false)⟩ undef (.inr ⟨by rfl, rfl⟩) hS ?_; try simp only [Act.put, sb, s0, sz]
                  refine takeW 21 ⟨some 53, .fieldAddr 33 (.tmp 2) 0, 0, "ref.go:88", #[⟨18, .guard⟩], some (18, false)⟩ undef (.inr ⟨by rfl, rfl⟩) hS ?_; try simp only [Act.put, sb, s0, sz]
                  refine takeW 22 ⟨some 54, .load 22 (.tmp 53), 22, "ref.go:88", #[⟨21, .data⟩, ⟨18, .guard⟩], some (18, false)⟩ undef (.inr ⟨by rfl, rfl⟩) hS ?_; try simp only [Act.put, sb, s0, sz]
                  refine takeW 23 ⟨some 55, .move (.tmp 5), 72, "ref.go:88", #[⟨18, .guard⟩], some (18, false)⟩ undef (.inr ⟨by rfl, rfl⟩) hS ?_; try simp only [Act.put, sb, s0, sz]
                  refine takeW 24 ⟨some 56, .move (.tmp 7), 3, "ref.go:88", #[⟨18, .guard⟩], some (18, false)⟩ undef (.inr ⟨by rfl, rfl⟩) hS ?_; try simp only [Act.put, sb, s0, sz]
                  refine takeW 25 ⟨some 57, .indexAddr 72 (.tmp 55) (.tmp 56), 0, "ref.go:88", #[⟨23, .data⟩, ⟨24, .data⟩, ⟨18, .guard⟩], some (18, false)⟩ undef (.inr ⟨by rfl, rfl⟩) hS ?_; try simp only [Act.put, sb, s0, sz]
                  refine takeW 26 ⟨some 58, .load 3 (.tmp 57), 3, "ref.go:88", #[⟨25, .data⟩, ⟨18, .guard⟩], some (18, false)⟩ undef (.inr ⟨by rfl, rfl⟩) hS ?_; try simp only [Act.put, sb, s0, sz]
                  refine takeW 27 ⟨some 59, .indexAddr 22 (.tmp 54) (.tmp 58), 0, "ref.go:88", #[⟨22, .data⟩, ⟨26, .data⟩, ⟨18, .guard⟩], some (18, false)⟩ undef (.inr ⟨by rfl, rfl⟩) hS ?_; try simp only [Act.put, sb, s0, sz]
                  refine takeW 28 ⟨some 60, .fieldAddr 41 (.tmp 59) 0, 0, "ref.go:88", #[⟨27, .data⟩, ⟨18, .guard⟩], some (18, false)⟩ undef (.inr ⟨by rfl, rfl⟩) hS ?_; try simp only [Act.put, sb, s0, sz]
                  refine takeW 29 ⟨some 61, .load 9 (.tmp 60), 9, "ref.go:88", #[⟨28, .data⟩, ⟨18, .guard⟩], some (18, false)⟩ undef (.inr ⟨by rfl, rfl⟩) hS ?_; try simp only [Act.put, sb, s0, sz]
                  refine takeW 30 ⟨some 62, .binOp .lss 9 (.tmp 52) (.tmp 61) 9, 4, "ref.go:88", #[⟨20, .data⟩, ⟨29, .data⟩, ⟨18, .guard⟩], some (18, false)⟩ undef (.inr ⟨by rfl, rfl⟩) hS ?_; try simp only [Act.put, sb, s0, sz]
                  refine takeW 31 ⟨some 63, .pick (.tmp 50) (.const (.bool true)) (.tmp 62), 4, "ref.go:88", #[⟨18, .data⟩, ⟨30, .data⟩, ⟨15, .guard⟩], some (15, true)⟩ ?_ (.inl ⟨by rfl, ?_⟩) hS ?_
                  rotate_left
                  · (intro w hSw; (try dsimp only at hSw); go_simp; (try with_reducible rfl))
                  try simp only [Act.put, sb, s0, sz]
                  refine takeW 32 ⟨some 64, .pick (.tmp 47) (.tmp 63) (.const (.bool false)), 4, "ref.go:88", #[⟨15, .data⟩, ⟨31, .data⟩], none⟩ ?_ (.inl ⟨by rfl, ?_⟩) hS ?_
                  rotate_left
                  · (intro w hSw; (try dsimp only at hSw); go_simp; (try with_reducible rfl))
                  try simp only [Act.put, sb, s0, sz]
                  refine wpAnyH_done (by kernel_rfl) ?_ _
                  clear hS
                  go_wp2
                  go_roundw
                  case rel => exact ⟨j + 1, by omega, by first | rfl | simp, HB.out, hE.drew.tail⟩
                  case measure => simp [intOf] <;> omega
                · have hbk : bb < ki.length := by rw [← HDn.out]; exact hbb
                  obtain ⟨kb2, hkb2⟩ : ∃ x, ki[bb] = x := ⟨_, rfl⟩
                  have hbb3 := kb.out bb hbk
                  have nb := nk.out bb hbk
                  have lb := ld.out bb hbk
                  rw [hkb2] at hbb3 nb lb
                  have hkb3 : (kb2 : Int) < (L.length : Int) := by omega
                  have hkb4 : (bb : Int) < (ki.length : Int) := by omega
                  have hb0 : ¬ ((bb : Int) < 0) := by omega
                  have HBl := SL.hid (fun h => Best.less hbb hmin hj HCand.out h)
                  have HBk := SL.hid (fun h => Best.keep hbb hbj hcb hmin hj h)
                  rw [Hxp.out] at HBl HBk
                  obtain ⟨yp, hyp⟩ : ∃ x, (D[bb]'hbb).path = x := ⟨_, rfl⟩
                  rw [hyp] at lb HBl HBk
                  have Nb := SL.hid nb
                  have Lb := SL.hid lb
                  clear nb lb hkb2 hyp hmin hcb hbb3
                  cases hlt2 : Op.bytesLess xp yp with
                  | true =>
                    have HB := SL.hid (HBl.out hlt2)
                    clear HBl HBk
                    go_wp2
                    refine wp_region_held_drew (S := (fun w' => ((Instr.loadAt 9 (.pointer (some ⟨b9, 0, none⟩))).run Tryd.prog w' = .ok (.string ⟨xp.toArray⟩) w') ∧ ((Instr.loadAt 9 (.pointer (some ⟨gr, i * 3, none⟩))).run Tryd.prog w' = .ok (.string ⟨lp.toArray⟩) w') ∧ ((Instr.loadAt 22 (.pointer (some ⟨b2, 0, none⟩))).run Tryd.prog w' = .ok (.slice (some ⟨b, off, none⟩) L.length c) w') ∧ ((Instr.loadAt 3 (.pointer (some ⟨gk, bb, none⟩))).run Tryd.prog w' = .ok (.int .i64 (kb2 : Int)) w') ∧ ((Instr.loadAt 9 (.pointer (some ⟨b, off + kb2 * 3, none⟩))).run Tryd.prog w' = .ok (.string ⟨yp.toArray⟩) w'))) (by kernel_rfl) ⟨(atVm hE.drew (by repeat (first | exact List.Mem.head _ | refine List.Mem.tail _ ?_)) (by simp [go_sem]) rfl), (HR.out _ _ _ hE.drew.tail), (atVm hE.drew (by repeat (first | exact List.Mem.head _ | refine List.Mem.tail _ ?_)) (by simp [go_sem]) rfl), (Nb.out _ _ hE.drew.tail.tail), ((Lb.out _ (hE.drew.suf (by repeat (first | exact List.suffix_refl _ | refine List.IsSuffix.trans ?_ (List.suffix_cons _ _))))).2)⟩ (fun hS => ?_)
                    refine takeW 0 ⟨some 32, .move (.tmp 6), 22, "ref.go:88", #[], none⟩ ?_ (.inl ⟨by rfl, ?_⟩) hS ?_
                    rotate_left
                    · (intro w hSw; (try dsimp only at hSw); go_simp; (try with_reducible rfl))
                    try simp only [Act.put, sb, s0, sz]
                    refine takeW 1 ⟨some 33, .call { callee := .builtin .len, args := #[.tmp 32], argTypes := #[22] }, 3, "ref.go:88", #[⟨0, .data⟩], none⟩ ?_ (.inl ⟨by rfl, ?_⟩) hS ?_
                    rotate_left
                    · (intro w hSw; (try dsimp only at hSw); go_simp; (try with_reducible rfl))
                    try simp only [Act.put, sb, s0, sz]
                    refine takeW 2 ⟨some 34, .binOp .eql 3 (.tmp 33) (.const (.int .i64 0)) 3, 4, "ref.go:88", #[⟨1, .data⟩], none⟩ ?_ (.inl ⟨by rfl, ?_⟩) hS ?_
                    rotate_left
                    · (intro w hSw; (try dsimp only at hSw); go_simp; (try with_reducible rfl))
                    try simp only [Act.put, sb, s0, sz]
                    refine takeW 3 ⟨some 35, .move (.tmp 34), 4, "ref.go:88", #[⟨2, .data⟩], none⟩ ?_ (.inl ⟨by rfl, ?_⟩) hS ?_
                    rotate_left
                    · (intro w hSw; (try dsimp only at hSw); go_simp; (try with_reducible rfl))
                    try simp only [Act.put, sb, s0, sz]
                    refine takeW 4 ⟨some 36, .fieldAddr 41 (.tmp 9) 0, 0, "ref.go:88", #[⟨3, .guard⟩], some (3, false)⟩ ?_ (.inl ⟨by rfl, ?_⟩) hS ?_
                    rotate_left
                    · (intro w hSw; (try dsimp only at hSw); go_simp; (try with_reducible rfl))
                    try simp only [Act.put, sb, s0, sz]
                    refine takeW 5 ⟨some 37, .load 9 (.tmp 36), 9, "ref.go:88", #[⟨4, .data⟩, ⟨3, .guard⟩], some (3, false)⟩ ?_ (.inl ⟨by rfl, ?_⟩) hS ?_
                    rotate_left
                    · (intro w hSw; (try dsimp only at hSw); go_simp; (try with_reducible rfl))
                    try simp only [Act.put, sb, s0, sz]
                    refine takeW 6 ⟨some 38, .move (.tmp 6), 22, "ref.go:88", #[⟨3, .guard⟩], some (3, false)⟩ ?_ (.inl ⟨by rfl, ?_⟩) hS ?_
                    rotate_left
                    · (intro w hSw; (try dsimp only at hSw); go_simp; (try with_reducible rfl))
                    try simp only [Act.put, sb, s0, sz]
                    refine takeW 7 ⟨some 39, .move (.tmp 6), 22, "ref.go:88", #[⟨3, .guard⟩], some (3, false)⟩ ?_ (.inl ⟨by rfl, ?_⟩) hS ?_
                    rotate_left
                    · (intro w hSw; (try dsimp only at hSw); go_simp; (try with_reducible rfl))
                    try simp only [Act.put, sb, s0, sz]
                    refine takeW 8 ⟨some 40, .call { callee := .builtin .len, args := #[.tmp 39], argTypes := #[22] }, 3, "ref.go:88", #[⟨7, .data⟩, ⟨3, .guard⟩], some (3, false)⟩ ?_ (.inl ⟨by rfl, ?_⟩) hS ?_
                    rotate_left
                    · (intro w hSw; (try dsimp only at hSw); go_simp; (try with_reducible rfl))
                    try simp only [Act.put, sb, s0, sz]
                    refine takeW 9 ⟨some 41, .binOp .sub 3 (.tmp 40) (.const (.int .i64 1)) 3, 3, "ref.go:88", #[⟨8, .data⟩, ⟨3, .guard⟩], some (3, false)⟩ ?_ (.inl ⟨by rfl, ?_⟩) hS ?_
                    rotate_left
                    · (intro w hSw; (try dsimp only at hSw); go_simp; (try with_reducible rfl))
                    try simp only [Act.put, sb, s0, sz]
                    refine takeW 10 ⟨some 42, .indexAddr 22 (.tmp 38) (.tmp 41), 0, "ref.go:88", #[⟨6, .data⟩, ⟨9, .data⟩, ⟨3, .guard⟩], some (3, false)⟩ ?_ (.inl ⟨by rfl, ?_⟩) hS ?_
                    rotate_left
                    · (intro w hSw; (try dsimp only at hSw); go_simp; (try with_reducible rfl))
                    try simp only [Act.put, sb, s0, sz]
                    refine takeW 11 ⟨some 43, .fieldAddr 41 (.tmp 42) 0, 0, "ref.go:88", #[⟨10, .data⟩, ⟨3, .guard⟩], some (3, false)⟩ ?_ (.inl ⟨by rfl, ?_⟩) hS ?_
                    rotate_left
                    · (intro w hSw; (try dsimp only at hSw); go_simp; (try with_reducible rfl))
                    try simp only [Act.put, sb, s0, sz]
                    refine takeW 12 ⟨some 44, .load 9 (.tmp 43), 9, "ref.go:88", #[⟨11, .data⟩, ⟨3, .guard⟩], some (3, false)⟩ ?_ (.inl ⟨by rfl, ?_⟩) hS ?_
                    rotate_left
                    · (intro w hSw; (try dsimp only at hSw); go_simp; (try with_reducible rfl))
                    try simp only [Act.put, sb, s0, sz]
                    refine takeW 13 ⟨some 45, .binOp .gtr 9 (.tmp 37) (.tmp 44) 9, 4, "ref.go:88", #[⟨5, .data⟩, ⟨12, .data⟩, ⟨3, .guard⟩], some (3, false)⟩ ?_ (.inl ⟨by rfl, ?_⟩) hS ?_
                    rotate_left
                    · (intro w hSw; (try dsimp only at hSw); go_simp; (try with_reducible rfl))
                    try simp only [Act.put, sb, s0, sz]
                    refine takeW 14 ⟨some 46, .pick (.tmp 35) (.const (.bool true)) (.tmp 45), 4, "ref.go:88", #[⟨3, .data⟩, ⟨13, .data⟩], none⟩ ?_ (.inl ⟨by rfl, ?_⟩) hS ?_
                    rotate_left
                    · (intro w hSw; (try dsimp only at hSw); go_simp; (try with_reducible rfl))
                    try simp only [Act.put, sb, s0, sz]
                    refine takeW 15 ⟨some 47, .move (.tmp 46), 4, "ref.go:88", #[⟨14, .data⟩, ⟨3, .chain⟩], none⟩ ?_ (.inl ⟨by rfl, ?_⟩) hS ?_
                    rotate_left
                    · (intro w hSw; (try dsimp only at hSw); go_simp; (try with_reducible rfl))
                    try simp only [Act.put, sb, s0, sz]
                    refine takeW 16 ⟨some 48, .move (.tmp 7), 3, "ref.go:88", #[⟨15, .guard⟩], some (15, true)⟩ ?_ (.inl ⟨by rfl, ?_⟩) hS ?_
                    rotate_left
                    · (intro w hSw; (try dsimp only at hSw); go_simp; (try with_reducible rfl))
                    try simp only [Act.put, sb, s0, sz]
                    refine takeW 17 ⟨some 49, .binOp .lss 3 (.tmp 48) (.const (.int .i64 0)) 3, 4, "ref.go:88", #[⟨16, .data⟩, ⟨15, .guard⟩], some (15, true)⟩ ?_ (.inl ⟨by rfl, ?_⟩) hS ?_
                    rotate_left
                    · (intro w hSw; (try dsimp only at hSw); go_simp; (try with_reducible rfl))
                    try simp only [Act.put, sb, s0, sz]
                    refine takeW 18 ⟨some 50, .move (.tmp 49), 4, "ref.go:88", #[⟨17, .data⟩, ⟨15, .chain⟩, ⟨15, .guard⟩], some (15, true)⟩ ?_ (.inl ⟨by rfl, ?_⟩) hS ?_
                    rotate_left
                    · (intro w hSw; (try dsimp only at hSw); go_simp; (try with_reducible rfl))
                    try simp only [Act.put, sb, s0, sz]
                    refine takeW 19 ⟨some 51, .fieldAddr 41 (.tmp 9) 0, 0, "ref.go:88", #[⟨18, .guard⟩], some (18, false)⟩ ?_ (.inl ⟨by rfl, ?_⟩) hS ?_
                    rotate_left
                    · (intro w hSw; (try dsimp only at hSw); go_simp; (try with_reducible rfl))
                    try simp only [Act.put, sb, s0, sz]
                    refine takeW 20 ⟨some 52, .load 9 (.tmp 51), 9, "ref.go:88", #[⟨19, .data⟩, ⟨18, .guard⟩], some (18, false)⟩ ?_ (.inl ⟨by rfl, ?_⟩) hS ?_
                    rotate_left
                    · (intro w hSw; (try dsimp only at hSw); go_simp; (try with_reducible rfl))
                    try simp only [Act.put, sb, s0, sz]
                    refine takeW 21 ⟨some 53, .fieldAddr 33 (.tmp 2) 0, 0, "ref.go:88", #[⟨18, .guard⟩], some (18, false)⟩ ?_ (.inl ⟨by rfl, ?_⟩) hS ?_
                    rotate_left
                    · (intro w hSw; (try dsimp only at hSw); go_simp; (try with_reducible rfl))
                    try simp only [Act.put, sb, s0, sz]
                    refine takeW 22 ⟨some 54, .load 22 (.tmp 53), 22, "ref.go:88", #[⟨21, .data⟩, ⟨18, .guard⟩], some (18, false)⟩ ?_ (.inl ⟨by rfl, ?_⟩) hS ?_
                    rotate_left
                    · (intro w hSw; (try dsimp only at hSw); go_simp; (try with_reducible rfl))
                    try simp only [Act.put, sb, s0, sz]
                    refine takeW 23 ⟨some 55, .move (.tmp 5), 72, "ref.go:88", #[⟨18, .guard⟩], some (18, false)⟩ ?_ (.inl ⟨by rfl, ?_⟩) hS ?_
                    rotate_left
                    · (intro w hSw; (try dsimp only at hSw); go_simp; (try with_reducible rfl))
                    try simp only [Act.put, sb, s0, sz]
                    refine takeW 24 ⟨some 56, .move (.tmp 7), 3, "ref.go:88", #[⟨18, .guard⟩], some (18, false)⟩ ?_ (.inl ⟨by rfl, ?_⟩) hS ?_
                    rotate_left
                    · (intro w hSw; (try dsimp only at hSw); go_simp; (try with_reducible rfl))
                    try simp only [Act.put, sb, s0, sz]
                    refine takeW 25 ⟨some 57, .indexAddr 72 (.tmp 55) (.tmp 56), 0, "ref.go:88", #[⟨23, .data⟩, ⟨24, .data⟩, ⟨18, .guard⟩], some (18, false)⟩ ?_ (.inl ⟨by rfl, ?_⟩) hS ?_
                    rotate_left
                    · (intro w hSw; (try dsimp only at hSw); go_simp; (try with_reducible rfl))
                    try simp only [Act.put, sb, s0, sz]
                    refine takeW 26 ⟨some 58, .load 3 (.tmp 57), 3, "ref.go:88", #[⟨25, .data⟩, ⟨18, .guard⟩], some (18, false)⟩ ?_ (.inl ⟨by rfl, ?_⟩) hS ?_
                    rotate_left
                    · (intro w hSw; (try dsimp only at hSw); go_simp; (try with_reducible rfl))
                    try simp only [Act.put, sb, s0, sz]
                    refine takeW 27 ⟨some 59, .indexAddr 22 (.tmp 54) (.tmp 58), 0, "ref.go:88", #[⟨22, .data⟩, ⟨26, .data⟩, ⟨18, .guard⟩], some (18, false)⟩ ?_ (.inl ⟨by rfl, ?_⟩) hS ?_
                    rotate_left
                    · (intro w hSw; (try dsimp only at hSw); go_simp; (try with_reducible rfl))
                    try simp only [Act.put, sb, s0, sz]
                    refine takeW 28 ⟨some 60, .fieldAddr 41 (.tmp 59) 0, 0, "ref.go:88", #[⟨27, .data⟩, ⟨18, .guard⟩], some (18, false)⟩ ?_ (.inl ⟨by rfl, ?_⟩) hS ?_
                    rotate_left
                    · (intro w hSw; (try dsimp only at hSw); go_simp; (try with_reducible rfl))
                    try simp only [Act.put, sb, s0, sz]
                    refine takeW 29 ⟨some 61, .load 9 (.tmp 60), 9, "ref.go:88", #[⟨28, .data⟩, ⟨18, .guard⟩], some (18, false)⟩ ?_ (.inl ⟨by rfl, ?_⟩) hS ?_
                    rotate_left
                    · (intro w hSw; (try dsimp only at hSw); go_simp; (try with_reducible rfl))
                    try simp only [Act.put, sb, s0, sz]
                    refine takeW 30 ⟨some 62, .binOp .lss 9 (.tmp 52) (.tmp 61) 9, 4, "ref.go:88", #[⟨20, .data⟩, ⟨29, .data⟩, ⟨18, .guard⟩], some (18, false)⟩ ?_ (.inl ⟨by rfl, ?_⟩) hS ?_
                    rotate_left
                    · (intro w hSw; (try dsimp only at hSw); go_simp; (try with_reducible rfl))
                    try simp only [Act.put, sb, s0, sz]
                    refine takeW 31 ⟨some 63, .pick (.tmp 50) (.const (.bool true)) (.tmp 62), 4, "ref.go:88", #[⟨18, .data⟩, ⟨30, .data⟩, ⟨15, .guard⟩], some (15, true)⟩ ?_ (.inl ⟨by rfl, ?_⟩) hS ?_
                    rotate_left
                    · (intro w hSw; (try dsimp only at hSw); go_simp; (try with_reducible rfl))
                    try simp only [Act.put, sb, s0, sz]
                    refine takeW 32 ⟨some 64, .pick (.tmp 47) (.tmp 63) (.const (.bool false)), 4, "ref.go:88", #[⟨15, .data⟩, ⟨31, .data⟩], none⟩ ?_ (.inl ⟨by rfl, ?_⟩) hS ?_
                    rotate_left
                    · (intro w hSw; (try dsimp only at hSw); go_simp; (try with_reducible rfl))
                    try simp only [Act.put, sb, s0, sz]
                    refine wpAnyH_done (by kernel_rfl) ?_ _
                    clear hS
                    go_wp2
                    go_roundw
                    case rel => exact ⟨j + 1, by omega, by first | rfl | simp, HB.out, hE.drew.tail⟩
                    case measure => simp [intOf] <;> omega
                  | false =>
                    have HB := SL.hid (HBk.out hlt2)
                    clear HBl HBk
                    go_wp2
                    refine wp_region_held_drew (S := (fun w' => ((Instr.loadAt 9 (.pointer (some ⟨b9, 0, none⟩))).run Tryd.prog w' = .ok (.string ⟨xp.toArray⟩) w') ∧ ((Instr.loadAt 9 (.pointer (some ⟨gr, i * 3, none⟩))).run Tryd.prog w' = .ok (.string ⟨lp.toArray⟩) w') ∧ ((Instr.loadAt 22 (.pointer (some ⟨b2, 0, none⟩))).run Tryd.prog w' = .ok (.slice (some ⟨b, off, none⟩) L.length c) w') ∧ ((Instr.loadAt 3 (.pointer (some ⟨gk, bb, none⟩))).run Tryd.prog w' = .ok (.int .i64 (kb2 : Int)) w') ∧ ((Instr.loadAt 9 (.pointer (some ⟨b, off + kb2 * 3, none⟩))).run Tryd.prog w' = .ok (.string ⟨yp.toArray⟩) w'))) (by kernel_rfl) ⟨(atVm hE.drew (by repeat (first | exact List.Mem.head _ | refine List.Mem.tail _ ?_)) (by simp [go_sem]) rfl), (HR.out _ _ _ hE.drew.tail), (atVm hE.drew (by repeat (first | exact List.Mem.head _ | refine List.Mem.tail _ ?_)) (by simp [go_sem]) rfl), (Nb.out _ _ hE.drew.tail.tail), ((Lb.out _ (hE.drew.suf (by repeat (first | exact List.suffix_refl _ | refine List.IsSuffix.trans ?_ (List.suffix_cons _ _))))).2)⟩ (fun hS => ?_)
                    refine takeW 0 ⟨some 32, .move (.tmp 6), 22, "ref.go:88", #[], none⟩ ?_ (.inl ⟨by rfl, ?_⟩) hS ?_
                    rotate_left
                    · (intro w hSw; (try dsimp only at hSw); go_simp; (try with_reducible rfl))
                    try simp only [Act.put, sb, s0, sz]
                    refine takeW 1 ⟨some 33, .call { callee := .builtin .len, args := #[.tmp 32], argTypes := #[22] }, 3, "ref.go:88", #[⟨0, .data⟩], none⟩ ?_ (.inl ⟨by rfl, ?_⟩) hS ?_
                    rotate_left
                    · (intro w hSw; (try dsimp only at hSw); go_simp; (try with_reducible rfl))
                    try simp only [Act.put, sb, s0, sz]
                    refine takeW 2 ⟨some 34, .binOp .eql 3 (.tmp 33) (.const (.int .i64 0)) 3, 4, "ref.go:88", #[⟨1, .data⟩], none⟩ ?_ (.inl ⟨by rfl, ?_⟩) hS ?_
                    rotate_left
                    · (intro w hSw; (try dsimp only at hSw); go_simp; (try with_reducible rfl))
                    try simp only [Act.put, sb, s0, sz]
                    refine takeW 3 ⟨some 35, .move (.tmp 34), 4, "ref.go:88", #[⟨2, .data⟩], none⟩ ?_ (.inl ⟨by rfl, ?_⟩) hS ?_
                    rotate_left
                    · (intro w hSw; (try dsimp only at hSw); go_simp; (try with_reducible rfl))
                    try simp only [Act.put, sb, s0, sz]
                    refine takeW 4 ⟨some 36, .fieldAddr 41 (.tmp 9) 0, 0, "ref.go:88", #[⟨3, .guard⟩], some (3, false)⟩ ?_ (.inl ⟨by rfl, ?_⟩) hS ?_
                    rotate_left
                    · (intro w hSw; (try dsimp only at hSw); go_simp; (try with_reducible rfl))
                    try simp only [Act.put, sb, s0, sz]
                    refine takeW 5 ⟨some 37, .load 9 (.tmp 36), 9, "ref.go:88", #[⟨4, .data⟩, ⟨3, .guard⟩], some (3, false)⟩ ?_ (.inl ⟨by rfl, ?_⟩) hS ?_
                    rotate_left
                    · (intro w hSw; (try dsimp only at hSw); go_simp; (try with_reducible rfl))
                    try simp only [Act.put, sb, s0, sz]
                    refine takeW 6 ⟨some 38, .move (.tmp 6), 22, "ref.go:88", #[⟨3, .guard⟩], some (3, false)⟩ ?_ (.inl ⟨by rfl, ?_⟩) hS ?_
                    rotate_left
                    · (intro w hSw; (try dsimp only at hSw); go_simp; (try with_reducible rfl))
                    try simp only [Act.put, sb, s0, sz]
                    refine takeW 7 ⟨some 39, .move (.tmp 6), 22, "ref.go:88", #[⟨3, .guard⟩], some (3, false)⟩ ?_ (.inl ⟨by rfl, ?_⟩) hS ?_
                    rotate_left
                    · (intro w hSw; (try dsimp only at hSw); go_simp; (try with_reducible rfl))
                    try simp only [Act.put, sb, s0, sz]
                    refine takeW 8 ⟨some 40, .call { callee := .builtin .len, args := #[.tmp 39], argTypes := #[22] }, 3, "ref.go:88", #[⟨7, .data⟩, ⟨3, .guard⟩], some (3, false)⟩ ?_ (.inl ⟨by rfl, ?_⟩) hS ?_
                    rotate_left
                    · (intro w hSw; (try dsimp only at hSw); go_simp; (try with_reducible rfl))
                    try simp only [Act.put, sb, s0, sz]
                    refine takeW 9 ⟨some 41, .binOp .sub 3 (.tmp 40) (.const (.int .i64 1)) 3, 3, "ref.go:88", #[⟨8, .data⟩, ⟨3, .guard⟩], some (3, false)⟩ ?_ (.inl ⟨by rfl, ?_⟩) hS ?_
                    rotate_left
                    · (intro w hSw; (try dsimp only at hSw); go_simp; (try with_reducible rfl))
                    try simp only [Act.put, sb, s0, sz]
                    refine takeW 10 ⟨some 42, .indexAddr 22 (.tmp 38) (.tmp 41), 0, "ref.go:88", #[⟨6, .data⟩, ⟨9, .data⟩, ⟨3, .guard⟩], some (3, false)⟩ ?_ (.inl ⟨by rfl, ?_⟩) hS ?_
                    rotate_left
                    · (intro w hSw; (try dsimp only at hSw); go_simp; (try with_reducible rfl))
                    try simp only [Act.put, sb, s0, sz]
                    refine takeW 11 ⟨some 43, .fieldAddr 41 (.tmp 42) 0, 0, "ref.go:88", #[⟨10, .data⟩, ⟨3, .guard⟩], some (3, false)⟩ ?_ (.inl ⟨by rfl, ?_⟩) hS ?_
                    rotate_left
                    · (intro w hSw; (try dsimp only at hSw); go_simp; (try with_reducible rfl))
                    try simp only [Act.put, sb, s0, sz]
                    refine takeW 12 ⟨some 44, .load 9 (.tmp 43), 9, "ref.go:88", #[⟨11, .data⟩, ⟨3, .guard⟩], some (3, false)⟩ ?_ (.inl ⟨by rfl, ?_⟩) hS ?_
                    rotate_left
                    · (intro w hSw; (try dsimp only at hSw); go_simp; (try with_reducible rfl))
                    try simp only [Act.put, sb, s0, sz]
                    refine takeW 13 ⟨some 45, .binOp .gtr 9 (.tmp 37) (.tmp 44) 9, 4, "ref.go:88", #[⟨5, .data⟩, ⟨12, .data⟩, ⟨3, .guard⟩], some (3, false)⟩ ?_ (.inl ⟨by rfl, ?_⟩) hS ?_
                    rotate_left
                    · (intro w hSw; (try dsimp only at hSw); go_simp; (try with_reducible rfl))
                    try simp only [Act.put, sb, s0, sz]
                    refine takeW 14 ⟨some 46, .pick (.tmp 35) (.const (.bool true)) (.tmp 45), 4, "ref.go:88", #[⟨3, .data⟩, ⟨13, .data⟩], none⟩ ?_ (.inl ⟨by rfl, ?_⟩) hS ?_
                    rotate_left
                    · (intro w hSw; (try dsimp only at hSw); go_simp; (try with_reducible rfl))
                    try simp only [Act.put, sb, s0, sz]
                    refine takeW 15 ⟨some 47, .move (.tmp 46), 4, "ref.go:88", #[⟨14, .data⟩, ⟨3, .chain⟩], none⟩ ?_ (.inl ⟨by rfl, ?_⟩) hS ?_
                    rotate_left
                    · (intro w hSw; (try dsimp only at hSw); go_simp; (try with_reducible rfl))
                    try simp only [Act.put, sb, s0, sz]
                    refine takeW 16 ⟨some 48, .move (.tmp 7), 3, "ref.go:88", #[⟨15, .guard⟩], some (15, true)⟩ ?_ (.inl ⟨by rfl, ?_⟩) hS ?_
                    rotate_left
                    · (intro w hSw; (try dsimp only at hSw); go_simp; (try with_reducible rfl))
                    try simp only [Act.put, sb, s0, sz]
                    refine takeW 17 ⟨some 49, .binOp .lss 3 (.tmp 48) (.const (.int .i64 0)) 3, 4, "ref.go:88", #[⟨16, .data⟩, ⟨15, .guard⟩], some (15, true)⟩ ?_ (.inl ⟨by rfl, ?_⟩) hS ?_
                    rotate_left
                    · (intro w hSw; (try dsimp only at hSw); go_simp; (try with_reducible rfl))
                    try simp only [Act.put, sb, s0, sz]
                    refine takeW 18 ⟨some 50, .move (.tmp 49), 4, "ref.go:88", #[⟨17, .data⟩, ⟨15, .chain⟩, ⟨15, .guard⟩], some (15, true)⟩ ?_ (.inl ⟨by rfl, ?_⟩) hS ?_
                    rotate_left
                    · (intro w hSw; (try dsimp only at hSw); go_simp; (try with_reducible rfl))
                    try simp only [Act.put, sb, s0, sz]
                    refine takeW 19 ⟨some 51, .fieldAddr 41 (.tmp 9) 0, 0, "ref.go:88", #[⟨18, .guard⟩], some (18, false)⟩ ?_ (.inl ⟨by rfl, ?_⟩) hS ?_
                    rotate_left
                    · (intro w hSw; (try dsimp only at hSw); go_simp; (try with_reducible rfl))
                    try simp only [Act.put, sb, s0, sz]
                    refine takeW 20 ⟨some 52, .load 9 (.tmp 51), 9, "ref.go:88", #[⟨19, .data⟩, ⟨18, .guard⟩], some (18, false)⟩ ?_ (.inl ⟨by rfl, ?_⟩) hS ?_
                    rotate_left
                    · (intro w hSw; (try dsimp only at hSw); go_simp; (try with_reducible rfl))
                    try simp only [Act.put, sb, s0, sz]
                    refine takeW 21 ⟨some 53, .fieldAddr 33 (.tmp 2) 0, 0, "ref.go:88", #[⟨18, .guard⟩], some (18, false)⟩ ?_ (.inl ⟨by rfl, ?_⟩) hS ?_
                    rotate_left
                    · (intro w hSw; (try dsimp only at hSw); go_simp; (try with_reducible rfl))
                    try simp only [Act.put, sb, s0, sz]
                    refine takeW 22 ⟨some 54, .load 22 (.tmp 53), 22, "ref.go:88", #[⟨21, .data⟩, ⟨18, .guard⟩], some (18, false)⟩ ?_ (.inl ⟨by rfl, ?_⟩) hS ?_
                    rotate_left
                    · (intro w hSw; (try dsimp only at hSw); go_simp; (try with_reducible rfl))
                    try simp only [Act.put, sb, s0, sz]
                    refine takeW 23 ⟨some 55, .move (.tmp 5), 72, "ref.go:88", #[⟨18, .guard⟩], some (18, false)⟩ ?_ (.inl ⟨by rfl, ?_⟩) hS ?_
                    rotate_left
                    · (intro w hSw; (try dsimp only at hSw); go_simp; (try with_reducible rfl))
                    try simp only [Act.put, sb, s0, sz]
                    refine takeW 24 ⟨some 56, .move (.tmp 7), 3, "ref.go:88", #[⟨18, .guard⟩], some (18, false)⟩ ?_ (.inl ⟨by rfl, ?_⟩) hS ?_
                    rotate_left
                    · (intro w hSw; (try dsimp only at hSw); go_simp; (try with_reducible rfl))
                    try simp only [Act.put, sb, s0, sz]
                    refine takeW 25 ⟨some 57, .indexAddr 72 (.tmp 55) (.tmp 56), 0, "ref.go:88", #[⟨23, .data⟩, ⟨24, .data⟩, ⟨18, .guard⟩], some (18, false)⟩ ?_ (.inl ⟨by rfl, ?_⟩) hS ?_
                    rotate_left
                    · (intro w hSw; (try dsimp only at hSw); go_simp; (try with_reducible rfl))
                    try simp only [Act.put, sb, s0, sz]
                    refine takeW 26 ⟨some 58, .load 3 (.tmp 57), 3, "ref.go:88", #[⟨25, .data⟩, ⟨18, .guard⟩], some (18, false)⟩ ?_ (.inl ⟨by rfl, ?_⟩) hS ?_
                    rotate_left
                    · (intro w hSw; (try dsimp only at hSw); go_simp; (try with_reducible rfl))
                    try simp only [Act.put, sb, s0, sz]
                    refine takeW 27 ⟨some 59, .indexAddr 22 (.tmp 54) (.tmp 58), 0, "ref.go:88", #[⟨22, .data⟩, ⟨26, .data⟩, ⟨18, .guard⟩], some (18, false)⟩ ?_ (.inl ⟨by rfl, ?_⟩) hS ?_
                    rotate_left
                    · (intro w hSw; (try dsimp only at hSw); go_simp; (try with_reducible rfl))
                    try simp only [Act.put, sb, s0, sz]
                    refine takeW 28 ⟨some 60, .fieldAddr 41 (.tmp 59) 0, 0, "ref.go:88", #[⟨27, .data⟩, ⟨18, .guard⟩], some (18, false)⟩ ?_ (.inl ⟨by rfl, ?_⟩) hS ?_
                    rotate_left
                    · (intro w hSw; (try dsimp only at hSw); go_simp; (try with_reducible rfl))
                    try simp only [Act.put, sb, s0, sz]
                    refine takeW 29 ⟨some 61, .load 9 (.tmp 60), 9, "ref.go:88", #[⟨28, .data⟩, ⟨18, .guard⟩], some (18, false)⟩ ?_ (.inl ⟨by rfl, ?_⟩) hS ?_
                    rotate_left
                    · (intro w hSw; (try dsimp only at hSw); go_simp; (try with_reducible rfl))
                    try simp only [Act.put, sb, s0, sz]
                    refine takeW 30 ⟨some 62, .binOp .lss 9 (.tmp 52) (.tmp 61) 9, 4, "ref.go:88", #[⟨20, .data⟩, ⟨29, .data⟩, ⟨18, .guard⟩], some (18, false)⟩ ?_ (.inl ⟨by rfl, ?_⟩) hS ?_
                    rotate_left
                    · (intro w hSw; (try dsimp only at hSw); go_simp; (try with_reducible rfl))
                    try simp only [Act.put, sb, s0, sz]
                    refine takeW 31 ⟨some 63, .pick (.tmp 50) (.const (.bool true)) (.tmp 62), 4, "ref.go:88", #[⟨18, .data⟩, ⟨30, .data⟩, ⟨15, .guard⟩], some (15, true)⟩ ?_ (.inl ⟨by rfl, ?_⟩) hS ?_
                    rotate_left
                    · (intro w hSw; (try dsimp only at hSw); go_simp; (try with_reducible rfl))
                    try simp only [Act.put, sb, s0, sz]
                    refine takeW 32 ⟨some 64, .pick (.tmp 47) (.tmp 63) (.const (.bool false)), 4, "ref.go:88", #[⟨15, .data⟩, ⟨31, .data⟩], none⟩ ?_ (.inl ⟨by rfl, ?_⟩) hS ?_
                    rotate_left
                    · (intro w hSw; (try dsimp only at hSw); go_simp; (try with_reducible rfl))
                    try simp only [Act.put, sb, s0, sz]
                    refine wpAnyH_done (by kernel_rfl) ?_ _
                    clear hS
                    go_wp2
                    go_roundw
                    case rel => exact ⟨j + 1, by omega, by first | rfl | simp, HB.out, hE.drew.tail⟩
                    case measure => simp [intOf] <;> omega
        · obtain rfl : j = D.length := by omega
          have hnI : ¬ ((D.length : Int) < (ki.length : Int)) := by rw [← HDn.out]; omega
          rcases hbest with ⟨rfl, hno⟩ | ⟨bb, hbb, _, rfl, hcb, hmin⟩
          · obtain ⟨jj, hjj, hc⟩ := some_cand HS.out Hr.out hlt
            exact absurd hc (hno jj hjj hjj)
          · have hres := best_at HS.out Hr.out hlt hbb hcb (fun m h hc => hmin m h h hc)
            have hbk : bb < ki.length := by rw [← HDn.out]; exact hbb
            obtain ⟨kb2, hkb2⟩ : ∃ x, ki[bb] = x := ⟨_, rfl⟩
            have hbb3 := kb.out bb hbk
            have nb := nk.out bb hbk
            have lb := ld.out bb hbk
            rw [hkb2] at hbb3 nb lb
            rw [hres] at lb
            have hkb3 : (kb2 : Int) < (L.length : Int) := by omega
            have hkb4 : (bb : Int) < (ki.length : Int) := by omega
            have hk1000 : k ≤ 1000 := by have := HSn.out; omega
            have Nb := SL.hid nb
            have Lb := SL.hid lb
            clear nb lb hkb2 hmin hcb hbb3 hres
            generalize S[k] = x at *
            obtain ⟨xp, xd, xb⟩ := x
            simp only at Lb
            go_wp2
            refine wp_region_held_drew (S := (fun w' => ((Instr.loadAt 22 (.pointer (some ⟨b2, 0, none⟩))).run Tryd.prog w' = .ok (.slice (some ⟨b, off, none⟩) L.length c) w') ∧ ((Instr.loadAt 3 (.pointer (some ⟨gk, bb, none⟩))).run Tryd.prog w' = .ok (.int .i64 (kb2 : Int)) w') ∧ ((Instr.loadAt 41 (.pointer (some ⟨b, off + kb2 * 3, none⟩))).run Tryd.prog w' = .ok (.agg #[.string ⟨xp.toArray⟩, .bool xd, .string ⟨xb.toArray⟩]) w'))) (by kernel_rfl) ⟨(atVm hE.drew (by repeat (first | exact List.Mem.head _ | refine List.Mem.tail _ ?_)) (by simp [go_sem]) rfl), (Nb.out _ _ hE.drew.tail), ((Lb.out _ (hE.drew.suf (by repeat (first | exact List.suffix_refl _ | refine List.IsSuffix.trans ?_ (List.suffix_cons _ _))))).1)⟩ (fun hS => ?_)
            refine takeW 0 ⟨some 66, .move (.tmp 6), 22, "ref.go:92", #[], none⟩ ?_ (.inl ⟨by rfl, ?_⟩) hS ?_
            rotate_left
            · (intro w hSw; (try dsimp only at hSw); go_simp; (try with_reducible rfl))
            try simp only [Act.put, sb, s0, sz]
            refine takeW 1 ⟨some 67, .fieldAddr 33 (.tmp 2) 0, 0, "ref.go:92", #[], none⟩ ?_ (.inl ⟨by rfl, ?_⟩) hS ?_
            rotate_left
            · (intro w hSw; (try dsimp only at hSw); go_simp; (try with_reducible rfl))
            try simp only [Act.put, sb, s0, sz]
            refine takeW 2 ⟨some 68, .load 22 (.tmp 67), 22, "ref.go:92", #[⟨1, .data⟩], none⟩ ?_ (.inl ⟨by rfl, ?_⟩) hS ?_
            rotate_left
            · (intro w hSw; (try dsimp only at hSw); go_simp; (try with_reducible rfl))
            try simp only [Act.put, sb, s0, sz]
            refine takeW 3 ⟨some 69, .move (.tmp 5), 72, "ref.go:92", #[], none⟩ ?_ (.inl ⟨by rfl, ?_⟩) hS ?_
            rotate_left
            · (intro w hSw; (try dsimp only at hSw); go_simp; (try with_reducible rfl))
            try simp only [Act.put, sb, s0, sz]
            refine takeW 4 ⟨some 70, .move (.tmp 7), 3, "ref.go:92", #[], none⟩ ?_ (.inl ⟨by rfl, ?_⟩) hS ?_
            rotate_left
            · (intro w hSw; (try dsimp only at hSw); go_simp; (try with_reducible rfl))
            try simp only [Act.put, sb, s0, sz]
            refine takeW 5 ⟨some 71, .indexAddr 72 (.tmp 69) (.tmp 70), 0, "ref.go:92", #[⟨3, .data⟩, ⟨4, .data⟩], none⟩ ?_ (.inl ⟨by rfl, ?_⟩) hS ?_
            rotate_left
            · (intro w hSw; (try dsimp only at hSw); go_simp; (try with_reducible rfl))
            try simp only [Act.put, sb, s0, sz]
            refine takeW 6 ⟨some 72, .load 3 (.tmp 71), 3, "ref.go:92", #[⟨5, .data⟩], none⟩ ?_ (.inl ⟨by rfl, ?_⟩) hS ?_
            rotate_left
            · (intro w hSw; (try dsimp only at hSw); go_simp; (try with_reducible rfl))
            try simp only [Act.put, sb, s0, sz]
            refine takeW 7 ⟨some 73, .indexAddr 22 (.tmp 68) (.tmp 72), 0, "ref.go:92", #[⟨2, .data⟩, ⟨6, .data⟩], none⟩ ?_ (.inl ⟨by rfl, ?_⟩) hS ?_
            rotate_left
            · (intro w hSw; (try dsimp only at hSw); go_simp; (try with_reducible rfl))
            try simp only [Act.put, sb, s0, sz]
            refine takeW 8 ⟨some 74, .load 41 (.tmp 73), 41, "ref.go:92", #[⟨7, .data⟩], none⟩ ?_ (.inl ⟨by rfl, ?_⟩) hS ?_
            rotate_left
            · (intro w hSw; (try dsimp only at hSw); go_simp; (try with_reducible rfl))
            try simp only [Act.put, sb, s0, sz]
            refine wpAnyH_ready (rs := [9]) (by kernel_rfl) (by simp) ?_
            refine (AllReadyH.cons (o := { dst := some 75, op := Go.Op.buildSlice 22 1 #[(0, Go.Operand.tmp 74)], type := 22, pos := "ref.go:92", after := #[{ on := 8, ground := Go.Ground.data }], guard := none }) rfl (fun K hK => ?_) AllReadyH.nil)
            (refine step_build1 hE.drew rfl (by rfl) (xs := enC ⟨xp, xd, xb⟩) (by rfl) Tryd.underlying22 zs_en Tryd.sizeOf41 (by decide) (by decide) rfl ?_; intro g9 w7 hB)
            refine hK.out _ _ ⟨(atVm hB.tail (by repeat (first | exact List.Mem.head _ | refine List.Mem.tail _ ?_)) (by simp [go_sem]) rfl), (Nb.out _ _ hB.tail.tail), ((Lb.out _ (hB.tail.suf (by repeat (first | exact List.suffix_refl _ | refine List.IsSuffix.trans ?_ (List.suffix_cons _ _))))).1)⟩ (fun hS => ?_)
            clear hK K
            try simp only [Act.put, sb, s0, sz]
            refine wpAnyH_ready (rs := [10]) (by kernel_rfl) (by simp) ?_
            refine (AllReadyH.cons (o := { dst := some 76, op := Go.Op.call { callee := Go.Callee.builtin Go.Builtin.append, args := #[Go.Operand.tmp 66, Go.Operand.tmp 75], argTypes := #[22, 22] }, type := 22, pos := "ref.go:92", after := #[{ on := 0, ground := Go.Ground.data }, { on := 9, ground := Go.Ground.data }], guard := none }) rfl (fun K hK => ?_) AllReadyH.nil)
            (refine step_appendG hB 1 rfl rfl (by rfl) (by rfl) (by rfl) Tryd.underlying22 info_en (by decide) (m := 1) (news := enC ⟨xp, xd, xb⟩) (reads_pt hB 0 rfl (off := 0) (fun j u hu => by rw [Nat.zero_add, List.getElem?_toArray]; exact hu)) rfl (enC_one _) (by omega) (by omega) ?_; intro a2 c2 w8 hC; simp only [List.set_cons_zero, List.set_cons_succ] at hC)
            refine hK.out _ _ ⟨(atVm hC.tail (by repeat (first | exact List.Mem.head _ | refine List.Mem.tail _ ?_)) (by simp [go_sem]) rfl), (Nb.out _ _ hC.tail.tail), ((Lb.out _ (hC.tail.suf (by repeat (first | exact List.suffix_refl _ | refine List.IsSuffix.trans ?_ (List.suffix_cons _ _))))).1)⟩ (fun hS => ?_)
            clear hK K
            try simp only [Act.put, sb, s0, sz]
            refine takeW 11 ⟨some 6, .assign (.tmp 76), 22, "ref.go:92", #[⟨10, .data⟩, ⟨10, .chain⟩, ⟨0, .phase⟩, ⟨1, .phase⟩, ⟨2, .phase⟩, ⟨3, .phase⟩, ⟨4, .phase⟩, ⟨5, .phase⟩, ⟨6, .phase⟩, ⟨7, .phase⟩, ⟨8, .phase⟩, ⟨9, .phase⟩, ⟨10, .phase⟩], none⟩ ?_ (.inl ⟨by rfl, ?_⟩) hS ?_
            rotate_left
            · (intro w hSw; (try dsimp only at hSw); go_simp; (try with_reducible rfl))
            try simp only [Act.put, sb, s0, sz]
            refine wpAnyH_done (by kernel_rfl) ?_ _
            clear hS hB
            go_wp2
            go_roundw
            case rel =>
              have e1 : (S.take (k + 1)).length = k + 1 := by rw [List.length_take]; omega
              refine ⟨k + 1, a2, c2, hlt, by rw [e1], ?_⟩
              simp only [rowEn, e1, Hfl.out]
              exact hC.tail
            case measure => simp [outLen] <;> omega
    · obtain rfl : k = S.length := by omega
      have hnI : ¬ ((S.length : Int) < (ki.length : Int)) := by rw [← HSn.out]; omega
      go_wp2
      refine bodyPost_ret (results_tmp rfl _ _ _) rfl ?_
      rw [List.take_length] at hE
      exact ⟨_, rfl, (⟨ar, cr, [rowN ak ck ki, pt b2 (.cells #[.slice ao L.length c] 33)], rfl, hE⟩ : SoPost S l _ _)⟩
end Go.Proofs.YtjmllpgmbaoebaaDoor
namespace Go.Proofs.YtjmllpgmbaoebaaDoor
open Go.RowKit Go.SL

def REn (t : Tr) (L : List En) (ao : Option Addr) (c : Nat) (l : List HProp) (d : Nat) : Prop := ∀ (q : List (List UInt8)) (u : Tr), Tr.Wf d u → Tr.get? q t = some u → (entT d q u).length ≤ 1000000 → ∀ (L' : List HProp) (w : World), l <:+ L' → Ent L' w →
  Calls Tryd.prog 14 #[.agg #[.slice ao L.length c], .string ⟨(joinP q).toArray⟩] w (Ret fun v w' => ∃ a c' m, v = .slice a (entT d q u).length c' ∧ Ent (rowEn a c' (entT d q u) :: (m ++ L')) w')
def ReRel (q : List (List UInt8)) (d : Nat) (ks : List (List UInt8 × Tr)) (S : List En) (aS : Option Addr) (cS : Nat) (R : List HProp) (o i : Value) (wr : World) : Prop :=
  ∃ (k : Nat) (a : Option Addr) (c : Nat) (m : List HProp) (out : List En), k ≤ S.length ∧ i = .int .i64 k ∧ o = .slice a out.length c ∧ out = (ks.take k).flatMap (fun x => entOf q x :: entT d (q ++ [x.1]) x.2) ∧
    Ent (rowEn a c out :: rowEn aS cS S :: (m ++ R)) wr
set_option maxRecDepth 100000 in
set_option maxHeartbeats 8000000 in
attribute [-go_sem] Instr.loadAt in
theorem rEn_step {t : Tr} {L : List En} (hG : Good t L) (hL : L.length ≤ 1000) (hb : ∀ x ∈ L, x.path.length ≤ 1000000) {ao : Option Addr} {c : Nat} {l : List HProp} (hk : Knows l (reads (.slice ao L.length c) L.length (L.flatMap enC))) {d : Nat}
    (IH : ∀ e, d = e + 1 → REn t L ao c l e) : REn t L ao c l d := by
  intro q u hw hg hbig L' w hs hE
  obtain ⟨hqa, hq6⟩ := get_names hG.2.1 hg
  have HSo := SL.hid (fun (L2 : List HProp) (w : World) (hs : l <:+ L2) (h : Ent L2 w) => Sorted_any hL hb (joinP q) (sortT_perm hG.1 hG.2.1 hqa hq6 hg) (sortT_rising (q := q) (p := u) (Tr.wf_rising hw)) (hk.suf hs) h)
  have HSo2 := SL.hid (show ∀ (L2 : List HProp) (w : World), l <:+ L2 → Ent L2 w → Calls Tryd.prog 18 #[.agg #[.slice ao L.length c], .string ⟨(joinP q).toArray⟩] w (Ret (SoPost (u.kids.map (entOf q)) L2)) from HSo.out)
  obtain ⟨e, he, heT⟩ : ∃ e, (u.kids ≠ [] → d = e + 1) ∧ entT d q u = u.kids.flatMap (fun x => entOf q x :: entT e (q ++ [x.1]) x.2) := by
    cases d with
    | zero => exact ⟨0, fun h => absurd hw.1 h, by rw [entT_file hw.1, hw.1]; rfl⟩
    | succ e => exact ⟨e, fun _ => rfl, rfl⟩
  have HK := SL.hid (show ∀ (k : Nat) (h : k < u.kids.length), REn t L ao c l e ∧ Tr.Wf e u.kids[k].2 ∧ Tr.get? (q ++ [u.kids[k].1]) t = some u.kids[k].2 from fun k h => by
    have hd := he (List.ne_nil_of_length_pos (by omega))
    subst hd
    refine ⟨IH e rfl, (hw.2.2.2.2.2 _ (List.getElem_mem h)).2, ?_⟩
    rw [get_snoc hg, Tr.kid_iff (Tr.wf_rising hw)]
    exact List.getElem_mem h)
  rw [heT] at hbig ⊢
  have Hs := SL.hid hs
  have hk6 := (Tr.wf_size hw).2
  clear HSo IH hw hg heT he hqa hq6 hs hk
  generalize u.kids = ks at *
  generalize hS : ks.map (entOf q) = S at *
  have HS := SL.hid hS
  have hsl : S.length = ks.length := by rw [← hS, List.length_map]
  have HSl := SL.hid hsl
  have hS6 : S.length ≤ 6 := by omega
  clear hS hsl
  have Hbig := SL.hid hbig
  clear hbig
  generalize hj : joinP q = jq at *
  clear hj
  go_enter Tryd.func14, Tryd.ntmps14
  go_wp2_with (first
    | go_skip
    | ((with_reducible (show Go.wpList _ _ _ (Go.Oper.mk _ (.box _ _) _ _ _ _ :: _) _ _)); refine wpl_box hE rfl rfl rfl ?_; clear hE; intro b2 w hE; simp only [Act.eval, Act.put, List.setIfInBounds_toArray, List.set_cons_zero, List.set_cons_succ, getD_lit, List.getD_cons_succ, List.getD_cons_zero, Value.cells] at hE)
    | ((with_reducible (show Go.wpList _ _ _ (Go.Oper.mk _ (.load 33 _) _ _ _ _ :: _) _ _)); (first | (refine wpl_loadW hE 0 rfl rfl rfl rfl Tryd.isAgg33 Tryd.sizeOf33 rfl ?_) | (refine wpl_loadW hE 1 rfl rfl rfl rfl Tryd.isAgg33 Tryd.sizeOf33 rfl ?_) | (refine wpl_loadW hE 2 rfl rfl rfl rfl Tryd.isAgg33 Tryd.sizeOf33 rfl ?_) | (refine wpl_loadW hE 3 rfl rfl rfl rfl Tryd.isAgg33 Tryd.sizeOf33 rfl ?_) | (refine wpl_loadW hE 4 rfl rfl rfl rfl Tryd.isAgg33 Tryd.sizeOf33 rfl ?_) | (refine wpl_loadW hE 5 rfl rfl rfl rfl Tryd.isAgg33 Tryd.sizeOf33 rfl ?_) | (refine wpl_loadW hE 6 rfl rfl rfl rfl Tryd.isAgg33 Tryd.sizeOf33 rfl ?_) | (refine wpl_loadW hE 7 rfl rfl rfl rfl Tryd.isAgg33 Tryd.sizeOf33 rfl ?_)))
    | (go_at_call 18; refine (HSo2.out _ _ (Hs.out.trans (List.suffix_cons _ _)) hE).mono ?_; clear hE; rintro e w3 ⟨v, rfl, aS, cS, mS, rfl, hE⟩))
  go_loopw [6, 7] (fun o i wr => ReRel q e ks S aS cS (pt b2 (.cells #[.slice ao L.length c] 33) :: L') o i wr) (fun _ i _ => S.length - (intOf i).toNat)
  case atStart => exact ⟨0, none, 0, mS, [], Nat.zero_le _, rfl, rfl, rfl, hE.nil _ _⟩
  case round =>
    clear hE
    obtain ⟨k, a, ca, mm, out, hkn, rfl, rfl, hout, hE⟩ := hrel
    by_cases hlt : k < S.length
    · have hlk : k < ks.length := by rw [← HSl.out]; exact hlt
      obtain ⟨gS, rfl, _, _⟩ := hE.rowIs 1 rfl (by omega)
      have hSk : S[k] = entOf q ks[k] := by simp only [← HS.out, List.getElem_map]
      have f1 := SL.hid (show ∀ (A : HProp) (L2 : List HProp) (w : World), Ent (A :: rowEn (some ⟨gS, 0, none⟩) cS S :: L2) w → (Instr.loadAt 41 (.pointer (some ⟨gS, k * 3, none⟩))).run Tryd.prog w = .ok (.agg #[.string ⟨S[k].path.toArray⟩, .bool S[k].dir, .string ⟨S[k].data.toArray⟩]) w from fun A L2 w h => by
        have := (load_en (reads_row h 1 rfl) hlt).1
        rwa [Nat.zero_add] at this)
      have g1 := SL.hid (show ∀ (L2 : List HProp) (w : World), Ent (rowEn (some ⟨gS, 0, none⟩) cS S :: L2) w → (Instr.loadAt 9 (.pointer (some ⟨gS, k * 3, none⟩))).run Tryd.prog w = .ok (.string ⟨S[k].path.toArray⟩) w from fun L2 w h => by
        have := (load_en (reads_row h 0 rfl) hlt).2.1
        rwa [Nat.zero_add] at this)
      have f2 := SL.hid (show ∀ (w : World), Ent (pt b2 (.cells #[.slice ao L.length c] 33) :: L') w → (Instr.loadAt 33 (.pointer (some ⟨b2, 0, none⟩))).run Tryd.prog w = .ok (.agg #[.slice ao L.length c]) w from fun w h => atWm (vs := [.slice ao L.length c]) h List.mem_cons_self Tryd.isAgg33 Tryd.sizeOf33 rfl)
      obtain ⟨hIH, hwk, hgk⟩ := HK.out k hlk
      have htake := List.take_succ_eq_append_getElem hlk
      have hlen2 : out.length + (entOf q ks[k] :: entT e (q ++ [ks[k].1]) ks[k].2).length ≤ 1000000 := by
        have e0 : ks = ks.take k ++ ks[k] :: ks.drop (k + 1) := by rw [← List.drop_eq_getElem_cons hlk, List.take_append_drop]
        have h2 : ((ks.take k).flatMap (fun x => entOf q x :: entT e (q ++ [x.1]) x.2)).length + (entOf q ks[k] :: entT e (q ++ [ks[k].1]) ks[k].2).length ≤ (ks.flatMap (fun x => entOf q x :: entT e (q ++ [x.1]) x.2)).length := by
          conv => rhs; rw [e0, List.flatMap_append, List.flatMap_cons, List.length_append, List.length_append]
          omega
        have := Hbig.out
        rw [hout]
        omega
      have Hout := SL.hid (show (ks.take (k + 1)).flatMap (fun x => entOf q x :: entT e (q ++ [x.1]) x.2) = out ++ (entOf q ks[k] :: entT e (q ++ [ks[k].1]) ks[k].2) from by
        rw [htake, List.flatMap_append, hout, List.flatMap_singleton])
      rw [List.length_cons] at hlen2
      have HI := SL.hid (fun (L2 : List HProp) (w : World) (hs : l <:+ L2) (h : Ent L2 w) => hIH (q ++ [ks[k].1]) ks[k].2 hwk hgk (by omega) L2 w hs h)
      have hpa : S[k].path = joinP (q ++ [ks[k].1]) := by rw [hSk]; rfl
      rw [← hpa] at HI
      rw [← hSk] at Hout
      clear htake hout hIH hwk hgk hSk hpa
      generalize entT e (q ++ [ks[k].1]) ks[k].2 = sub at *
      generalize S[k] = y at *
      obtain ⟨xp, xd, xb⟩ := y
      simp only at f1 g1 HI
      have Hlen2 := SL.hid hlen2
      clear hlen2
      go_wp2_with (first
        | go_skip
        | ((with_reducible (show Go.wpList _ _ _ (Go.Oper.mk _ (.load 41 _) _ _ _ _ :: _) _ _)); refine wpl_run rfl (w' := wr) (v := .agg #[.string ⟨xp.toArray⟩, .bool xd, .string ⟨xb.toArray⟩]) (by simp only [execOp, Act.eval]; simp [f1.out _ _ _ hE]) ?_)
        | ((with_reducible (show Go.wpList _ _ _ (Go.Oper.mk _ (.buildSlice _ _ _) _ _ _ _ :: _) _ _)); refine wpl_build1 hE rfl rfl (xs := enC ⟨xp, xd, xb⟩) rfl Tryd.underlying22 zs_en Tryd.sizeOf41 (by decide) (by decide) rfl ?_; clear hE; intro b9 w3 hE)
        | ((with_reducible (show Go.wpList _ _ _ (Go.Oper.mk _ (.call { callee := .builtin .append, args := _, argTypes := _ }) _ _ _ _ :: _) _ _)); refine wpl_appendG hE 1 rfl rfl rfl rfl rfl Tryd.underlying22 info_en (by decide) (m := 1) (news := enC ⟨xp, xd, xb⟩) (reads_pt hE 0 rfl (off := 0) (fun j u hu => by rw [Nat.zero_add, List.getElem?_toArray]; exact hu)) rfl (enC_one _) (by have := Hlen2.out; omega) (by have := Hlen2.out; omega) ?_; clear hE; intro ao' c' w6 hE; simp only [List.set_cons_zero, List.set_cons_succ] at hE; replace hE := hE.tail))
      refine wp_region_held_drew (S := (fun w' => ((Instr.loadAt 33 (.pointer (some ⟨b2, 0, none⟩))).run Tryd.prog w' = .ok (.agg #[.slice ao L.length c]) w') ∧ ((Instr.loadAt 9 (.pointer (some ⟨gS, k * 3, none⟩))).run Tryd.prog w' = .ok (.string ⟨xp.toArray⟩) w'))) (by kernel_rfl) ⟨(f2.out _ (by first | exact (hE.drew.tail.tail).drop | exact ((hE.drew.tail.tail).drop).tail.drop)), (g1.out _ _ (by first | exact hE.drew.tail | exact (hE.drew.tail.tail).drop))⟩ (fun hS => ?_)
      refine takeW 0 ⟨some 24, .move (.tmp 6), 22, "ref.go:103", #[], none⟩ ?_ (.inl ⟨by rfl, ?_⟩) hS ?_
      rotate_left
      · (intro w hSw; (try dsimp only at hSw); go_simp; (try with_reducible rfl))
      try simp only [Act.put, sb, s0, sz]
      refine takeW 1 ⟨some 25, .load 33 (.tmp 2), 33, "ref.go:103", #[], none⟩ ?_ (.inl ⟨by rfl, ?_⟩) hS ?_
      rotate_left
      · (intro w hSw; (try dsimp only at hSw); go_simp; (try with_reducible rfl))
      try simp only [Act.put, sb, s0, sz]
      refine takeW 2 ⟨some 26, .move (.tmp 5), 22, "ref.go:103", #[], none⟩ ?_ (.inl ⟨by rfl, ?_⟩) hS ?_
      rotate_left
      · (intro w hSw; (try dsimp only at hSw); go_simp; (try with_reducible rfl))
      try simp only [Act.put, sb, s0, sz]
      refine takeW 3 ⟨some 27, .move (.tmp 7), 3, "ref.go:103", #[], none⟩ ?_ (.inl ⟨by rfl, ?_⟩) hS ?_
      rotate_left
      · (intro w hSw; (try dsimp only at hSw); go_simp; (try with_reducible rfl))
      try simp only [Act.put, sb, s0, sz]
      refine takeW 4 ⟨some 28, .indexAddr 22 (.tmp 26) (.tmp 27), 0, "ref.go:103", #[⟨2, .data⟩, ⟨3, .data⟩], none⟩ ?_ (.inl ⟨by rfl, ?_⟩) hS ?_
      rotate_left
      · (intro w hSw; (try dsimp only at hSw); go_simp; (try with_reducible rfl))
      try simp only [Act.put, sb, s0, sz]
      refine takeW 5 ⟨some 29, .fieldAddr 41 (.tmp 28) 0, 0, "ref.go:103", #[⟨4, .data⟩], none⟩ ?_ (.inl ⟨by rfl, ?_⟩) hS ?_
      rotate_left
      · (intro w hSw; (try dsimp only at hSw); go_simp; (try with_reducible rfl))
      try simp only [Act.put, sb, s0, sz]
      refine takeW 6 ⟨some 30, .load 9 (.tmp 29), 9, "ref.go:103", #[⟨5, .data⟩], none⟩ ?_ (.inl ⟨by rfl, ?_⟩) hS ?_
      rotate_left
      · (intro w hSw; (try dsimp only at hSw); go_simp; (try with_reducible rfl))
      try simp only [Act.put, sb, s0, sz]
      refine wpAnyH_ready (rs := [7]) (by kernel_rfl) (by simp) ?_
      refine (AllReadyH.cons (o := { dst := some 31, op := Go.Op.call { callee := Go.Callee.value (Go.Operand.func 14), args := #[Go.Operand.tmp 25, Go.Operand.tmp 30], argTypes := #[33, 9] }, type := 22, pos := "ref.go:103", after := #[{ on := 1, ground := Go.Ground.data }, { on := 6, ground := Go.Ground.data }], guard := none }) rfl (fun K hK => ?_) AllReadyH.nil)
      (go_simp; have H := HI.out _ _ ((Hs.out.trans (List.suffix_cons _ _)).trans ((List.suffix_append mm _).trans ((List.suffix_cons _ _).trans (List.suffix_cons _ _)))) hE.drew; refine H.mono ?_; clear H; rintro e w4 ⟨v, rfl, a5, c5, m5, rfl, hA0⟩; have hA := Ent.swap (a := rowEn a5 c5 sub :: m5) (b := [_]) hA0; simp only [List.cons_append, List.nil_append] at hA)
      refine hK.out _ _ ⟨(f2.out _ (by first | exact (hA.tail.tail).drop | exact ((hA.tail.tail).drop).tail.drop)), (g1.out _ _ (by first | exact hA.tail | exact (hA.tail.tail).drop))⟩ (fun hS => ?_)
      clear hK K
      try simp only [Act.put, sb, s0, sz]
      refine wpAnyH_ready (rs := [8]) (by kernel_rfl) (by simp) ?_
      refine (AllReadyH.cons (o := { dst := some 32, op := Go.Op.call { callee := Go.Callee.builtin Go.Builtin.append, args := #[Go.Operand.tmp 24, Go.Operand.tmp 31], argTypes := #[22, 22] }, type := 22, pos := "ref.go:103", after := #[{ on := 0, ground := Go.Ground.data }, { on := 7, ground := Go.Ground.data }, { on := 7, ground := Go.Ground.chain }], guard := none }) rfl (fun K hK => ?_) AllReadyH.nil)
      (refine step_appendG hA 0 rfl rfl (by rfl) (by rfl) (by rfl) Tryd.underlying22 info_en (by decide) (m := sub.length) (news := sub.flatMap enC) (reads_row hA 1 rfl) (enC_flat_len sub) (flat_one sub) (by have := Hlen2.out; omega) (by have := Hlen2.out; omega) ?_; intro a6 c6 w7 hC; simp only [List.set_cons_zero, List.set_cons_succ] at hC)
      refine hK.out _ _ ⟨(f2.out _ (by first | exact (hC.tail.tail).drop | exact ((hC.tail.tail).drop).tail.drop)), (g1.out _ _ (by first | exact hC.tail | exact (hC.tail.tail).drop))⟩ (fun hS => ?_)
      clear hK K
      try simp only [Act.put, sb, s0, sz]
      refine takeW 9 ⟨some 6, .assign (.tmp 32), 22, "ref.go:103", #[⟨8, .data⟩, ⟨8, .chain⟩, ⟨0, .phase⟩, ⟨1, .phase⟩, ⟨2, .phase⟩, ⟨3, .phase⟩, ⟨4, .phase⟩, ⟨5, .phase⟩, ⟨6, .phase⟩, ⟨7, .phase⟩, ⟨8, .phase⟩], none⟩ ?_ (.inl ⟨by rfl, ?_⟩) hS ?_
      rotate_left
      · (intro w hSw; (try dsimp only at hSw); go_simp; (try with_reducible rfl))
      try simp only [Act.put, sb, s0, sz]
      refine wpAnyH_done (by kernel_rfl) ?_ _
      clear hA hA0 hE hS
      go_wp2
      go_roundw
      case rel =>
        have e1 : (out ++ (⟨xp, xd, xb⟩ : En) :: sub).length = out.length + 1 + sub.length := by simp only [List.length_append, List.length_cons]; omega
        have e2 : (out ++ (⟨xp, xd, xb⟩ : En) :: sub).flatMap enC = out.flatMap enC ++ enC ⟨xp, xd, xb⟩ ++ sub.flatMap enC := by simp [List.append_assoc]
        refine ⟨k + 1, a6, c6, rowEn a5 c5 sub :: (m5 ++ mm), out ++ (⟨xp, xd, xb⟩ : En) :: sub, hlt, by first | rfl | simp, by rw [e1], Hout.out.symm, ?_⟩
        simp only [rowEn, e1, e2, List.cons_append, List.append_assoc] at hC ⊢
        exact (Ent.swap (a := _ :: _ :: m5) (b := [_]) hC).front 1 rfl
      case measure => simp [intOf] <;> omega
    · obtain rfl : k = S.length := by omega
      have Ho := SL.hid (show out = ks.flatMap (fun x => entOf q x :: entT e (q ++ [x.1]) x.2) from by rw [hout, HSl.out, List.take_length])
      clear hout
      go_wp2
      refine bodyPost_ret (results_tmp rfl _ _ _) rfl ?_
      rw [← Ho.out]
      refine ⟨_, rfl, a, ca, rowEn aS cS S :: (mm ++ [pt b2 (.cells #[.slice ao L.length c] 33)]), rfl, ?_⟩
      simp only [List.cons_append, List.append_assoc, List.nil_append]
      exact hE
theorem rEn_all {t : Tr} {L : List En} (hG : Good t L) (hL : L.length ≤ 1000) (hb : ∀ x ∈ L, x.path.length ≤ 1000000) {ao : Option Addr} {c : Nat} {l : List HProp} (hk : Knows l (reads (.slice ao L.length c) L.length (L.flatMap enC))) : ∀ d, REn t L ao c l d
  | 0 => rEn_step hG hL hb hk (fun e h => absurd h (by omega))
  | d + 1 => rEn_step hG hL hb hk (fun e h => by cases h; exact rEn_all hG hL hb hk d)
theorem rEntries_any {t : Tr} {L : List En} (hG : Good t L) (hL : L.length ≤ 1000) (hb : ∀ x ∈ L, x.path.length ≤ 1000000) {ao : Option Addr} {c : Nat} {l : List HProp} (hk : Knows l (reads (.slice ao L.length c) L.length (L.flatMap enC))) {L' : List HProp} {w : World} (hs : l <:+ L') (hE : Ent L' w) :
    Calls Tryd.prog 14 #[.agg #[.slice ao L.length c], .string ⟨#[]⟩] w (Ret fun v w' => ∃ a c' m, v = .slice a (entT 6 [] t).length c' ∧ Ent (rowEn a c' (entT 6 [] t) :: (m ++ L')) w') :=
  rEn_all hG hL hb hk 6 [] t hG.2.1 rfl (by rw [(all_perm hG).length_eq]; omega) L' w hs hE
end Go.Proofs.YtjmllpgmbaoebaaDoor
namespace Go.Proofs.YtjmllpgmbaoebaaDoor
open Go.RowKit Go.SL

/-- the place that the loop over a directory's kids has found -/
def Found (L : List En) (ki : List Nat) (tgt : List UInt8) (ne : Bool) (j : Nat) (v : Value) : Prop :=
  (v = .int .i64 (-1) ∧ (ne = true → ∀ (m : Nat) (h : m < ki.length) (h2 : ki[m] < L.length), m < j → L[ki[m]].path ≠ tgt)) ∨
  ∃ (m : Nat) (h : m < ki.length) (h2 : ki[m] < L.length), m < j ∧ v = .int .i64 (ki[m] : Int) ∧ ne = true ∧ L[ki[m]].path = tgt
theorem Found.start {L : List En} {ki : List Nat} {tgt : List UInt8} {ne : Bool} : Found L ki tgt ne 0 (.int .i64 (-1)) := .inl ⟨rfl, fun _ m _ _ h => absurd h (Nat.not_lt_zero m)⟩
theorem Found.skip {L : List En} {ki : List Nat} {tgt : List UInt8} {ne : Bool} {j : Nat} {v : Value} (h : Found L ki tgt ne j v) (hn : ne = true → ∀ (h : j < ki.length) (h2 : ki[j] < L.length), L[ki[j]].path ≠ tgt) : Found L ki tgt ne (j + 1) v := by
  rcases h with ⟨e, h⟩ | ⟨m, h1, h2, h3, h4⟩
  · refine .inl ⟨e, fun hne m hm hm2 hmj => ?_⟩
    rcases Nat.lt_or_eq_of_le (show m ≤ j by omega) with h1 | rfl
    · exact h hne m hm hm2 h1
    · exact hn hne hm hm2
  · exact .inr ⟨m, h1, h2, by omega, h4⟩
theorem Found.hit {L : List En} {ki : List Nat} {tgt : List UInt8} {j : Nat} (hj : j < ki.length) (h2 : ki[j] < L.length) (h : L[ki[j]].path = tgt) : Found L ki tgt true (j + 1) (.int .i64 (ki[j] : Int)) := .inr ⟨j, hj, h2, by omega, rfl, rfl, h⟩
/-- what was found, and the tree's kid -/
theorem found_kid {t p : Tr} {L : List En} (hG : Good t L) {q : List (List UInt8)} (hg : Tr.get? q t = some p) {n : List UInt8} (hn : isName n = true) {v : Value} (h : Found L (kidsI L (joinP q)) (joinP (q ++ [n])) true (kidsI L (joinP q)).length v) :
    (v = .int .i64 (-1) ∧ p.kid? n = none) ∨ ∃ (i : Nat) (hi : i < L.length) (k : Tr), v = .int .i64 (i : Int) ∧ p.kid? n = some k ∧ L[i] = ⟨joinP (q ++ [n]), k.dir, k.data⟩ := by
  obtain ⟨hqa, hq6⟩ := get_names hG.2.1 hg
  have key := fun y => kid_entry hG.1 hG.2.1 hqa hq6 hg hn (y := y)
  rcases h with ⟨e, h⟩ | ⟨m, h1, h2, _, e, _, h⟩
  · refine .inl ⟨e, ?_⟩
    cases hk : p.kid? n with
    | none => rfl
    | some k =>
      obtain ⟨hy, hp⟩ := (key (entOf q (n, k))).2 ⟨k, hk, rfl⟩
      obtain ⟨m, hm, e2⟩ := List.getElem_of_mem hy
      have hm' : m < (kidsI L (joinP q)).length := by rw [kidsI_len]; exact hm
      obtain ⟨a1, a2, a3⟩ := kd_at hm'
      exact absurd (by rw [a3, e2]; exact hp) (h rfl m hm' a1 hm')
  · obtain ⟨a1, a2, a3⟩ := kd_at h1
    obtain ⟨k, hk, hy⟩ := (key L[(kidsI L (joinP q))[m]]).1 ⟨a3 ▸ List.getElem_mem a2, h⟩
    exact .inr ⟨_, h2, k, e, hk, hy⟩
def rAtPost (q : List (List UInt8)) (t : Tr) (l : List HProp) (v : Value) (w' : World) : Prop :=
  ∃ m : List HProp, v = .tuple #[.agg #[.string ⟨(if (atT 11 10 q t).1 = 0 then joinP q else []).toArray⟩, .bool (atT 11 10 q t).2.dir, .string ⟨(atT 11 10 q t).2.data.toArray⟩], .int .i64 (atT 11 10 q t).1] ∧ Ent (m ++ l) w'
def rAtRel (q : List (List UInt8)) (t : Tr) (b6 : Nat) (R : List HProp) (i : Value) (wr : World) : Prop :=
  ∃ (k : Nat) (p : Tr), k ≤ q.length ∧ i = .int .i64 k ∧ Tr.get? (q.take k) t = some p ∧ atT 11 10 q t = atT 11 10 (q.drop k) p ∧
    Ent (pt b6 (.cells #[.string ⟨(joinP (q.take k)).toArray⟩, .bool p.dir, .string ⟨p.data.toArray⟩] 41) :: R) wr
def FoRel (L : List En) (ki : List Nat) (tgt : List UInt8) (ne : Bool) (R : List HProp) (v i : Value) (wr : World) : Prop :=
  ∃ j : Nat, j ≤ ki.length ∧ i = .int .i64 j ∧ Found L ki tgt ne j v ∧ Ent R wr
end Go.Proofs.YtjmllpgmbaoebaaDoor
