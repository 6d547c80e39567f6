/-
  The document's entries of a directory, sorted. Printed by gen_ta6.py.
-/
import Derived.Test.YtljfkejkohmimaaDoorDiffAF7
namespace Go.Proofs.YtljfkejkohmimaaDoor
open Go.RowKit Go.SL
theorem cells_of {w : World} {b n c : Nat} {xs : List Value} (h : reads (.slice (some ⟨b, 0, none⟩) n c) n xs w) (j : Nat) (u : Value) (hu : xs[j]? = some u) : w.cell? ⟨b, j, none⟩ = some u := by
  obtain ⟨ao, c', e, _, h2⟩ := h
  cases e
  have := h2 _ rfl j u hu
  rwa [Addr.add_lit, Nat.zero_add] at this

theorem kd_at {L : List En} {p : List UInt8} {j : Nat} (hj : j < (kidsI L p).length) : ∃ (h1 : (kidsI L p)[j] < L.length) (h2 : j < (kidsD L p).length), L[(kidsI L p)[j]] = (kidsD L p)[j] := by
  have h1 : (kidsI L p)[j] < L.length := kidsI_lt (List.getElem_mem hj)
  have h2 : j < (kidsD L p).length := by rw [← kidsI_len]; exact hj
  refine ⟨h1, h2, ?_⟩
  have e := kidsI_map L p ⟨[], false, []⟩
  have : (kidsD L p)[j]? = some (L.getD (kidsI L p)[j] ⟨[], false, []⟩) := by rw [← e, List.getElem?_map, List.getElem?_eq_getElem hj]; rfl
  rw [List.getElem?_eq_getElem h2, List.getD_eq_getElem?_getD, List.getElem?_eq_getElem h1] at this
  exact (Option.some.inj this).symm
def outLen : Value → Nat | .slice _ n _ => n | _ => 0
/-- what is known of the least one so far -/
def Best (S D : List En) (k j : Nat) (v : Value) : Prop :=
  (v = .int .i64 (-1) ∧ ∀ (m : Nat) (h : m < D.length), m < j → ¬ Cand S k D[m]) ∨
  ∃ (b : Nat) (hb : b < D.length), b < j ∧ v = .int .i64 (b : Int) ∧ Cand S k D[b] ∧ ∀ (m : Nat) (h : m < D.length), m < j → Cand S k D[m] → Op.bytesLess D[m].path D[b].path = false
theorem Best.skip {S D : List En} {k j : Nat} {v : Value} (h : Best S D k j v) (hj : j < D.length) (hn : ¬ Cand S k D[j]) : Best S D k (j + 1) v := by
  rcases h with ⟨e, h⟩ | ⟨b, hb, hbj, e, hc, h⟩
  · refine .inl ⟨e, fun m hm hmj => ?_⟩
    rcases Nat.lt_or_eq_of_le (show m ≤ j by omega) with h1 | rfl
    · exact h m hm h1
    · exact hn
  · refine .inr ⟨b, hb, by omega, e, hc, fun m hm hmj => ?_⟩
    rcases Nat.lt_or_eq_of_le (show m ≤ j by omega) with h1 | rfl
    · exact h m hm h1
    · exact fun h' => absurd h' hn
theorem Best.first {S D : List En} {k j : Nat} (h : ∀ (m : Nat) (h : m < D.length), m < j → ¬ Cand S k D[m]) (hj : j < D.length) (hc : Cand S k D[j]) : Best S D k (j + 1) (.int .i64 (j : Int)) := by
  refine .inr ⟨j, hj, by omega, rfl, hc, fun m hm hmj => ?_⟩
  rcases Nat.lt_or_eq_of_le (show m ≤ j by omega) with h1 | rfl
  · exact fun h' => absurd h' (h m hm h1)
  · exact fun _ => bl_irrefl _
theorem Best.keep {S D : List En} {k j b : Nat} (hb : b < D.length) (hbj : b < j) (hc : Cand S k D[b]) (h : ∀ (m : Nat) (h : m < D.length), m < j → Cand S k D[m] → Op.bytesLess D[m].path D[b].path = false) (hj : j < D.length) (hl : Op.bytesLess D[j].path D[b].path = false) : Best S D k (j + 1) (.int .i64 (b : Int)) := by
  refine .inr ⟨b, hb, by omega, rfl, hc, fun m hm hmj => ?_⟩
  rcases Nat.lt_or_eq_of_le (show m ≤ j by omega) with h1 | rfl
  · exact h m hm h1
  · exact fun _ => hl
theorem Best.less {S D : List En} {k j b : Nat} (hb : b < D.length) (h : ∀ (m : Nat) (h : m < D.length), m < j → Cand S k D[m] → Op.bytesLess D[m].path D[b].path = false) (hj : j < D.length) (hc : Cand S k D[j]) (hl : Op.bytesLess D[j].path D[b].path = true) : Best S D k (j + 1) (.int .i64 (j : Int)) := by
  refine .inr ⟨j, hj, by omega, rfl, hc, fun m hm hmj hm2 => ?_⟩
  rcases Nat.lt_or_eq_of_le (show m ≤ j by omega) with h1 | rfl
  · have h2 := h m hm h1 hm2
    cases hx : Op.bytesLess D[m].path D[j].path with
    | false => rfl
    | true => rw [bl_trans hx hl] at h2; cases h2
  · exact bl_irrefl _
def SoPost (S : List En) (l : List HProp) (v : Value) (w' : World) : Prop := ∃ (a : Option Addr) (c : Nat) (m : List HProp), v = .slice a S.length c ∧ Ent (rowEn a c S :: (m ++ l)) w'
def SoRel (S : List En) (l : List HProp) (o : Value) (wr : World) : Prop :=
  ∃ (k : Nat) (a : Option Addr) (c : Nat), k ≤ S.length ∧ o = .slice a (S.take k).length c ∧ Ent (rowEn a c (S.take k) :: l) wr
def SiRel (S D : List En) (k : Nat) (l : List HProp) (v i : Value) (wr : World) : Prop :=
  ∃ j : Nat, j ≤ D.length ∧ i = .int .i64 j ∧ Best S D k j v ∧ Ent l wr
set_option maxRecDepth 100000 in
set_option maxHeartbeats 16000000 in
attribute [-go_sem] Instr.loadAt in
theorem Sorted_any {L S : List En} (hL : L.length ≤ 1000) (hb : ∀ x ∈ L, x.path.length ≤ 1000000) (p : List UInt8) (hS : (kidsD L p).Perm S) (hr : Rising (S.map En.path)) {ao : Option Addr} {c : Nat} {l : List HProp} {w : World} (hk : Knows l (reads (.slice ao L.length c) L.length (L.flatMap enC))) (hE : Ent l w) :
    Calls Tryd.prog 54 #[.agg #[.slice ao L.length c], .string ⟨p.toArray⟩] w (Ret (SoPost S l)) := by
  have HKi := SL.hid (fun (L' : List HProp) (w : World) (hs : l <:+ L') (h : Ent L' w) => kids_any (by omega) hb p (hk.suf hs) h)
  have HKD := SL.hid (fun (j : Nat) (h : j < (kidsI L p).length) => kd_at h)
  have hDn : (kidsD L p).length = (kidsI L p).length := (kidsI_len L p).symm
  have hSn := hS.length_eq
  have hle := kidsI_le L p
  have HS := SL.hid hS
  have Hr := SL.hid hr
  clear hS hr hb
  generalize kidsI L p = ki at *
  generalize kidsD L p = D at *
  have HDn := SL.hid hDn
  have HSn := SL.hid (hSn.symm.trans hDn)
  clear hDn hSn
  go_enter Tryd.func54, Tryd.ntmps54
  go_wp2_with (first
    | go_skip
    | ((with_reducible (show Go.wpList _ _ _ (Go.Oper.mk _ (.box _ _) _ _ _ _ :: _) _ _)); refine wpl_box hE rfl rfl rfl ?_; clear hE; intro b2 w hE; simp only [Act.eval, Act.put, List.setIfInBounds_toArray, List.set_cons_zero, List.set_cons_succ, getD_lit, List.getD_cons_succ, List.getD_cons_zero, Value.cells] at hE)
    | ((with_reducible (show Go.wpList _ _ _ (Go.Oper.mk _ (.load 78 _) _ _ _ _ :: _) _ _)); (first | (refine wpl_loadW hE 0 rfl rfl rfl rfl Tryd.isAgg78 Tryd.sizeOf78 rfl ?_) | (refine wpl_loadW hE 1 rfl rfl rfl rfl Tryd.isAgg78 Tryd.sizeOf78 rfl ?_) | (refine wpl_loadW hE 2 rfl rfl rfl rfl Tryd.isAgg78 Tryd.sizeOf78 rfl ?_) | (refine wpl_loadW hE 3 rfl rfl rfl rfl Tryd.isAgg78 Tryd.sizeOf78 rfl ?_) | (refine wpl_loadW hE 4 rfl rfl rfl rfl Tryd.isAgg78 Tryd.sizeOf78 rfl ?_) | (refine wpl_loadW hE 5 rfl rfl rfl rfl Tryd.isAgg78 Tryd.sizeOf78 rfl ?_) | (refine wpl_loadW hE 6 rfl rfl rfl rfl Tryd.isAgg78 Tryd.sizeOf78 rfl ?_) | (refine wpl_loadW hE 7 rfl rfl rfl rfl Tryd.isAgg78 Tryd.sizeOf78 rfl ?_)))
    | (go_at_call 67; refine (HKi.out _ _ (by repeat (first | exact List.suffix_refl _ | refine List.IsSuffix.trans ?_ (List.suffix_cons _ _) | refine List.IsSuffix.trans ?_ (List.suffix_append _ _))) hE).mono ?_; clear hE; rintro e w3 ⟨v, rfl, ak, ck, rfl, hE⟩))
  go_loopw [6] (fun o wr => SoRel S (rowN ak ck ki :: pt b2 (.cells #[.slice ao L.length c] 78) :: l) o wr) (fun o _ => S.length - outLen o)
  case atStart => exact ⟨0, none, 0, Nat.zero_le _, rfl, hE.nil _ _⟩
  case round =>
    clear hE
    obtain ⟨k, ar, cr, hkn, rfl, hE⟩ := hrel
    have htl : (S.take k).length = k := by rw [List.length_take]; omega
    simp only [rowEn, htl] at hE ⊢
    clear htl
    by_cases hlt : k < S.length
    · have hki : k < ki.length := by rw [← HSn.out]; exact hlt
      have hkI : (k : Int) < (ki.length : Int) := by omega
      obtain ⟨gk, rfl, _, _⟩ := hE.rowIs 1 rfl (by omega)
      have nk := SL.hid (fun (j : Nat) (hj : j < ki.length) (L' : List HProp) (w : World) (h : Ent (rowN (some ⟨gk, 0, none⟩) ck ki :: L') w) => show (Instr.loadAt 3 (.pointer (some ⟨gk, j, none⟩))).run Tryd.prog w = .ok (.int .i64 (ki[j] : Int)) w from
        atCell (cells_of (reads_row h 0 rfl) j (intv ki[j]) (by rw [List.getElem?_map, List.getElem?_eq_getElem hj]; rfl)) (by simp [go_sem]))
      have hki0 : 0 < ki.length := by omega
      have hL0 : 0 < L.length := by omega
      obtain ⟨b, off, rfl, hz⟩ := en_at (hk _ hE.tail.tail.tail) hL0
      clear hz
      have ld := SL.hid (fun (j : Nat) (hj : j < ki.length) (w : World) (h : Ent l w) => show (Instr.loadAt 53 (.pointer (some ⟨b, off + ki[j] * 3, none⟩))).run Tryd.prog w = .ok (.agg #[.string ⟨(D[j]'(by rw [HDn.out]; exact hj)).path.toArray⟩, .bool (D[j]'(by rw [HDn.out]; exact hj)).dir, .string ⟨(D[j]'(by rw [HDn.out]; exact hj)).data.toArray⟩]) w ∧ (Instr.loadAt 9 (.pointer (some ⟨b, off + ki[j] * 3, none⟩))).run Tryd.prog w = .ok (.string ⟨(D[j]'(by rw [HDn.out]; exact hj)).path.toArray⟩) w from by
        obtain ⟨h1, h2, h3⟩ := HKD.out j hj
        have := load_en (hk w h) h1
        rw [h3] at this
        exact ⟨this.1, this.2.1⟩)
      have kb := SL.hid (fun (j : Nat) (hj : j < ki.length) => show ki[j] < L.length from (HKD.out j hj).1)
      have hrowk := SL.hid (show ∀ (hk0 : 0 < k) (L' : List HProp) (w : World) (gr : Nat), Ent (row 53 3 (.slice (some ⟨gr, 0, none⟩) k cr) k ((S.take k).flatMap enC) :: L') w → (Instr.loadAt 9 (.pointer (some ⟨gr, (k - 1) * 3, none⟩))).run Tryd.prog w = .ok (.string ⟨(S[k - 1]'(by omega)).path.toArray⟩) w from fun hk0 L' w gr h => by
        have htl : (S.take k).length = k := by rw [List.length_take]; omega
        have h1 := reads_row h 0 rfl
        have h2 : reads (.slice (some ⟨gr, 0, none⟩) (S.take k).length cr) (S.take k).length ((S.take k).flatMap enC) w := by rw [htl]; exact h1
        have h3 := (load_en h2 (k := k - 1) (by rw [htl]; omega)).2.1
        rw [Nat.zero_add, List.getElem_take] at h3
        exact h3)
      have Hfl := SL.hid (show (S.take (k + 1)).flatMap enC = (S.take k).flatMap enC ++ enC S[k] from by rw [List.take_succ_eq_append_getElem hlt, List.flatMap_append, List.flatMap_singleton])
      have Hcan := SL.hid (fun (x : En) (hk0 : k = 0) => show Cand S k x from fun h => absurd h.1 (by omega))
      have Hca1 := SL.hid (fun (x : En) (hk0 : 0 < k) (h : Op.bytesLess (S[k - 1]'(by omega)).path x.path = true) => show Cand S k x from fun _ => h)
      have Hca2 := SL.hid (fun (x : En) (hk0 : 0 < k) (h : Op.bytesLess (S[k - 1]'(by omega)).path x.path = false) => show ¬ Cand S k x from fun h2 => by rw [h2 ⟨hk0, by omega⟩] at h; cases h)
      generalize (S.take k).flatMap enC = fl at *
      clear hk
      go_wp2
      go_loopw [7, 8] (fun v i wr => SiRel S D k (row 53 3 (.slice ar k cr) k fl :: rowN (some ⟨gk, 0, none⟩) ck ki :: pt b2 (.cells #[.slice (some ⟨b, off, none⟩) L.length c] 78) :: l) v i wr) (fun _ i _ => D.length - (intOf i).toNat)
      case atStart => exact ⟨0, Nat.zero_le _, rfl, .inl ⟨rfl, fun m _ h => absurd h (Nat.not_lt_zero m)⟩, hE⟩
      case round =>
        clear hE
        obtain ⟨j, hjn, rfl, hbest, hE⟩ := hrel
        by_cases hj : j < D.length
        · have hjk : j < ki.length := by rw [← HDn.out]; exact hj
          have hjI : (j : Int) < (ki.length : Int) := by omega
          obtain ⟨kj, hkj⟩ : ∃ x, ki[j] = x := ⟨_, rfl⟩
          have hkb := kb.out j hjk
          have nj := nk.out j hjk
          have lj := ld.out j hjk
          rw [hkj] at hkb nj lj
          have hkbI : (kj : Int) < (L.length : Int) := by omega
          have Nj := SL.hid nj
          have Lj := SL.hid lj
          have HC0 := SL.hid (Hcan.out D[j])
          have HC1 := SL.hid (Hca1.out D[j])
          have HC2 := SL.hid (Hca2.out D[j])
          obtain ⟨xp, hxp⟩ : ∃ x, D[j].path = x := ⟨_, rfl⟩
          have Hxp := SL.hid hxp
          rw [hxp] at Lj HC1 HC2
          obtain ⟨xd, hxd⟩ : ∃ x, D[j].dir = x := ⟨_, rfl⟩
          obtain ⟨xb, hxb⟩ : ∃ x, D[j].data = x := ⟨_, rfl⟩
          rw [hxd, hxb] at Lj
          clear nj lj hkj hxp hxd hxb
          go_wp2
          refine wp_region_held_drew (S := (fun w' => ((Instr.loadAt 22 (.pointer (some ⟨b2, 0, none⟩))).run Tryd.prog w' = .ok (.slice (some ⟨b, off, none⟩) L.length c) w') ∧ ((Instr.loadAt 3 (.pointer (some ⟨gk, j, none⟩))).run Tryd.prog w' = .ok (.int .i64 (kj : Int)) w') ∧ ((Instr.loadAt 53 (.pointer (some ⟨b, off + kj * 3, none⟩))).run Tryd.prog w' = .ok (.agg #[.string ⟨xp.toArray⟩, .bool xd, .string ⟨xb.toArray⟩]) w'))) (by kernel_rfl) ⟨(atVm hE.drew (by repeat (first | exact List.Mem.head _ | refine List.Mem.tail _ ?_)) (by simp [go_sem]) rfl), (Nj.out _ _ (hE.drew.suf (by repeat (first | exact List.suffix_refl _ | refine List.IsSuffix.trans ?_ (List.suffix_cons _ _) | refine List.IsSuffix.trans ?_ (List.suffix_append _ _))))), ((Lj.out _ (hE.drew.suf (by repeat (first | exact List.suffix_refl _ | refine List.IsSuffix.trans ?_ (List.suffix_cons _ _) | refine List.IsSuffix.trans ?_ (List.suffix_append _ _))))).1)⟩ (fun hS => ?_)
          refine tV 0 ⟨some 24, .fieldAddr 78 (.tmp 2) 0, _, _, _, none⟩ hS ?_
          refine tL 1 ⟨some 25, .load 22 (.tmp 24), _, _, _, none⟩ hS ?_
          refine tV 2 ⟨some 26, .move (.tmp 5), _, _, _, none⟩ hS ?_
          refine tV 3 ⟨some 27, .move (.tmp 8), _, _, _, none⟩ hS ?_
          refine tV 4 ⟨some 28, .indexAddr 110 (.tmp 26) (.tmp 27), _, _, _, none⟩ hS ?_
          refine tL 5 ⟨some 29, .load 3 (.tmp 28), _, _, _, none⟩ hS ?_
          refine tV 6 ⟨some 30, .indexAddr 22 (.tmp 25) (.tmp 29), _, _, _, none⟩ hS ?_
          refine tL 7 ⟨some 31, .load 53 (.tmp 30), _, _, _, none⟩ hS ?_
          refine wpAnyH_ready (rs := [8]) (by kernel_rfl) (by simp) ?_
          refine (AllReadyH.cons (o := ⟨some 9, .alloc 53, _, _, _, none⟩) rfl (fun K hK => ?_) AllReadyH.nil)
          (go_simp; have hAl := hE.drew.alloc (.cells #[.string ⟨#[]⟩, .bool false, .string ⟨#[]⟩] 53))
          refine hK.out _ _ ⟨(atVm hAl (by repeat (first | exact List.Mem.head _ | refine List.Mem.tail _ ?_)) (by simp [go_sem]) rfl), (Nj.out _ _ (hAl.suf (by repeat (first | exact List.suffix_refl _ | refine List.IsSuffix.trans ?_ (List.suffix_cons _ _) | refine List.IsSuffix.trans ?_ (List.suffix_append _ _))))), ((Lj.out _ (hAl.suf (by repeat (first | exact List.suffix_refl _ | refine List.IsSuffix.trans ?_ (List.suffix_cons _ _) | refine List.IsSuffix.trans ?_ (List.suffix_append _ _))))).1)⟩ (fun hS => ?_)
          clear hK K
          try simp only [Act.put, sb, s0, sz]
          refine wpAnyH_ready (rs := [9]) (by kernel_rfl) (by simp) ?_
          refine (AllReadyH.cons (o := ⟨none, .store 53 (.tmp 9) (.tmp 31), _, _, _, none⟩) rfl (fun K hK => ?_) AllReadyH.nil)
          (refine step_storeW hAl 0 rfl (by rfl) (by rfl) (by rfl) (xs := [.string ⟨xp.toArray⟩, .bool xd, .string ⟨xb.toArray⟩]) (by rfl) Tryd.sizeOf53 rfl (by simp [Value.oneCell']) rfl ?_; intro w7 hEs; simp only [List.set_cons_zero, List.set_cons_succ] at hEs)
          refine hK.out _ _ ⟨(atVm hEs (by repeat (first | exact List.Mem.head _ | refine List.Mem.tail _ ?_)) (by simp [go_sem]) rfl), (Nj.out _ _ (hEs.suf (by repeat (first | exact List.suffix_refl _ | refine List.IsSuffix.trans ?_ (List.suffix_cons _ _) | refine List.IsSuffix.trans ?_ (List.suffix_append _ _))))), ((Lj.out _ (hEs.suf (by repeat (first | exact List.suffix_refl _ | refine List.IsSuffix.trans ?_ (List.suffix_cons _ _) | refine List.IsSuffix.trans ?_ (List.suffix_append _ _))))).1)⟩ (fun hS => ?_)
          clear hK K
          try simp only [Act.put, sb, s0, sz]
          refine wpAnyH_done (by kernel_rfl) ?_ _
          replace hE : Ent (pt wr.heap.size (.cells #[.string ⟨xp.toArray⟩, .bool xd, .string ⟨xb.toArray⟩] 53) :: row 53 3 (.slice ar k cr) k fl :: rowN (some ⟨gk, 0, none⟩) ck ki :: pt b2 (.cells #[.slice (some ⟨b, off, none⟩) L.length c] 78) :: l) w7 := hEs
          generalize wr.heap.size = b9 at *
          clear hEs hS hAl
          by_cases hk0 : k = 0
          · have HCand := SL.hid (HC0.out hk0)
            have hkz : ((k : Int) == 0) = true := by simp [hk0]
            clear HC0 HC1 HC2 hk0
            rcases hbest with ⟨rfl, hno⟩ | ⟨bb, hbb, hbj, rfl, hcb, hmin⟩
            · have HB := SL.hid (Best.first hno hj HCand.out)
              clear hno
              go_wp2
              refine wp_region_held_drew (S := (fun w' => ((Instr.loadAt 9 (.pointer (some ⟨b9, 0, none⟩))).run Tryd.prog w' = .ok (.string ⟨xp.toArray⟩) w'))) (by kernel_rfl) (atVm hE.drew (by repeat (first | exact List.Mem.head _ | refine List.Mem.tail _ ?_)) (by simp [go_sem]) rfl) (fun hS => ?_)
              refine tV 0 ⟨some 32, .move (.tmp 6), _, _, _, none⟩ hS ?_
              refine tV 1 ⟨some 33, .call { callee := .builtin .len, args := #[.tmp 32], argTypes := #[22] }, _, _, _, none⟩ hS ?_
              refine tV 2 ⟨some 34, .binOp .eql 3 (.tmp 33) (.const (.int .i64 0)) 3, _, _, _, none⟩ hS ?_
              refine tV 3 ⟨some 35, .move (.tmp 34), _, _, _, none⟩ hS ?_
              refine tU 4 ⟨some 36, .fieldAddr 53 (.tmp 9) 0, _, _, _, some (3, false)⟩ hS ?_
              refine tU 5 ⟨some 37, .load 9 (.tmp 36), _, _, _, some (3, false)⟩ hS ?_
              refine tU 6 ⟨some 38, .move (.tmp 6), _, _, _, some (3, false)⟩ hS ?_
              refine tU 7 ⟨some 39, .move (.tmp 6), _, _, _, some (3, false)⟩ hS ?_
              refine tU 8 ⟨some 40, .call { callee := .builtin .len, args := #[.tmp 39], argTypes := #[22] }, _, _, _, some (3, false)⟩ hS ?_
              refine tU 9 ⟨some 41, .binOp .sub 3 (.tmp 40) (.const (.int .i64 1)) 3, _, _, _, some (3, false)⟩ hS ?_
              refine tU 10 ⟨some 42, .indexAddr 22 (.tmp 38) (.tmp 41), _, _, _, some (3, false)⟩ hS ?_
              refine tU 11 ⟨some 43, .fieldAddr 53 (.tmp 42) 0, _, _, _, some (3, false)⟩ hS ?_
              refine tU 12 ⟨some 44, .load 9 (.tmp 43), _, _, _, some (3, false)⟩ hS ?_
              refine tU 13 ⟨some 45, .binOp .gtr 9 (.tmp 37) (.tmp 44) 9, _, _, _, some (3, false)⟩ hS ?_
              refine tV 14 ⟨some 46, .pick (.tmp 35) (.const (.bool true)) (.tmp 45), _, _, _, none⟩ hS ?_
              refine tV 15 ⟨some 47, .move (.tmp 46), _, _, _, none⟩ hS ?_
              refine tV 16 ⟨some 48, .move (.tmp 7), _, _, _, some (15, true)⟩ hS ?_
              refine tV 17 ⟨some 49, .binOp .lss 3 (.tmp 48) (.const (.int .i64 0)) 3, _, _, _, some (15, true)⟩ hS ?_
              refine tV 18 ⟨some 50, .move (.tmp 49), _, _, _, some (15, true)⟩ hS ?_
              refine tU 19 ⟨some 51, .fieldAddr 53 (.tmp 9) 0, _, _, _, some (18, false)⟩ hS ?_
              refine tU 20 ⟨some 52, .load 9 (.tmp 51), _, _, _, some (18, false)⟩ hS ?_
              refine tU 21 ⟨some 53, .fieldAddr 78 (.tmp 2) 0, _, _, _, some (18, false)⟩ hS ?_
              refine tU 22 ⟨some 54, .load 22 (.tmp 53), _, _, _, some (18, false)⟩ hS ?_
              refine tU 23 ⟨some 55, .move (.tmp 5), _, _, _, some (18, false)⟩ hS ?_
              refine tU 24 ⟨some 56, .move (.tmp 7), _, _, _, some (18, false)⟩ hS ?_
              refine tU 25 ⟨some 57, .indexAddr 110 (.tmp 55) (.tmp 56), _, _, _, some (18, false)⟩ hS ?_
              refine tU 26 ⟨some 58, .load 3 (.tmp 57), _, _, _, some (18, false)⟩ hS ?_
              refine tU 27 ⟨some 59, .indexAddr 22 (.tmp 54) (.tmp 58), _, _, _, some (18, false)⟩ hS ?_
              refine tU 28 ⟨some 60, .fieldAddr 53 (.tmp 59) 0, _, _, _, some (18, false)⟩ hS ?_
              refine tU 29 ⟨some 61, .load 9 (.tmp 60), _, _, _, some (18, false)⟩ hS ?_
              refine tU 30 ⟨some 62, .binOp .lss 9 (.tmp 52) (.tmp 61) 9, _, _, _, some (18, false)⟩ hS ?_
              refine tV 31 ⟨some 63, .pick (.tmp 50) (.const (.bool true)) (.tmp 62), _, _, _, some (15, true)⟩ hS ?_
              refine tV 32 ⟨some 64, .pick (.tmp 47) (.tmp 63) (.const (.bool false)), _, _, _, none⟩ hS ?_
              refine wpAnyH_done (by kernel_rfl) ?_ _
              clear hS
              go_wp2
              go_roundw
              case rel => exact ⟨j + 1, by omega, by first | rfl | simp, HB.out, hE.drew.tail⟩
              case measure => simp [intOf] <;> omega
            · have hbk : bb < ki.length := by rw [← HDn.out]; exact hbb
              obtain ⟨kb2, hkb2⟩ : ∃ x, ki[bb] = x := ⟨_, rfl⟩
              have hbb3 := kb.out bb hbk
              have nb := nk.out bb hbk
              have lb := ld.out bb hbk
              rw [hkb2] at hbb3 nb lb
              have hkb3 : (kb2 : Int) < (L.length : Int) := by omega
              have hkb4 : (bb : Int) < (ki.length : Int) := by omega
              have hb0 : ¬ ((bb : Int) < 0) := by omega
              have HBl := SL.hid (fun h => Best.less hbb hmin hj HCand.out h)
              have HBk := SL.hid (fun h => Best.keep hbb hbj hcb hmin hj h)
              rw [Hxp.out] at HBl HBk
              obtain ⟨yp, hyp⟩ : ∃ x, (D[bb]'hbb).path = x := ⟨_, rfl⟩
              rw [hyp] at lb HBl HBk
              have Nb := SL.hid nb
              have Lb := SL.hid lb
              clear nb lb hkb2 hyp hmin hcb hbb3
              cases hlt2 : Op.bytesLess xp yp with
              | true =>
                have HB := SL.hid (HBl.out hlt2)
                clear HBl HBk
                go_wp2
                refine wp_region_held_drew (S := (fun w' => ((Instr.loadAt 9 (.pointer (some ⟨b9, 0, none⟩))).run Tryd.prog w' = .ok (.string ⟨xp.toArray⟩) w') ∧ ((Instr.loadAt 22 (.pointer (some ⟨b2, 0, none⟩))).run Tryd.prog w' = .ok (.slice (some ⟨b, off, none⟩) L.length c) w') ∧ ((Instr.loadAt 3 (.pointer (some ⟨gk, bb, none⟩))).run Tryd.prog w' = .ok (.int .i64 (kb2 : Int)) w') ∧ ((Instr.loadAt 9 (.pointer (some ⟨b, off + kb2 * 3, none⟩))).run Tryd.prog w' = .ok (.string ⟨yp.toArray⟩) w'))) (by kernel_rfl) ⟨(atVm hE.drew (by repeat (first | exact List.Mem.head _ | refine List.Mem.tail _ ?_)) (by simp [go_sem]) rfl), (atVm hE.drew (by repeat (first | exact List.Mem.head _ | refine List.Mem.tail _ ?_)) (by simp [go_sem]) rfl), (Nb.out _ _ hE.drew.tail.tail), ((Lb.out _ (hE.drew.suf (by repeat (first | exact List.suffix_refl _ | refine List.IsSuffix.trans ?_ (List.suffix_cons _ _) | refine List.IsSuffix.trans ?_ (List.suffix_append _ _))))).2)⟩ (fun hS => ?_)
                refine tV 0 ⟨some 32, .move (.tmp 6), _, _, _, none⟩ hS ?_
                refine tV 1 ⟨some 33, .call { callee := .builtin .len, args := #[.tmp 32], argTypes := #[22] }, _, _, _, none⟩ hS ?_
                refine tV 2 ⟨some 34, .binOp .eql 3 (.tmp 33) (.const (.int .i64 0)) 3, _, _, _, none⟩ hS ?_
                refine tV 3 ⟨some 35, .move (.tmp 34), _, _, _, none⟩ hS ?_
                refine tU 4 ⟨some 36, .fieldAddr 53 (.tmp 9) 0, _, _, _, some (3, false)⟩ hS ?_
                refine tU 5 ⟨some 37, .load 9 (.tmp 36), _, _, _, some (3, false)⟩ hS ?_
                refine tU 6 ⟨some 38, .move (.tmp 6), _, _, _, some (3, false)⟩ hS ?_
                refine tU 7 ⟨some 39, .move (.tmp 6), _, _, _, some (3, false)⟩ hS ?_
                refine tU 8 ⟨some 40, .call { callee := .builtin .len, args := #[.tmp 39], argTypes := #[22] }, _, _, _, some (3, false)⟩ hS ?_
                refine tU 9 ⟨some 41, .binOp .sub 3 (.tmp 40) (.const (.int .i64 1)) 3, _, _, _, some (3, false)⟩ hS ?_
                refine tU 10 ⟨some 42, .indexAddr 22 (.tmp 38) (.tmp 41), _, _, _, some (3, false)⟩ hS ?_
                refine tU 11 ⟨some 43, .fieldAddr 53 (.tmp 42) 0, _, _, _, some (3, false)⟩ hS ?_
                refine tU 12 ⟨some 44, .load 9 (.tmp 43), _, _, _, some (3, false)⟩ hS ?_
                refine tU 13 ⟨some 45, .binOp .gtr 9 (.tmp 37) (.tmp 44) 9, _, _, _, some (3, false)⟩ hS ?_
                refine tV 14 ⟨some 46, .pick (.tmp 35) (.const (.bool true)) (.tmp 45), _, _, _, none⟩ hS ?_
                refine tV 15 ⟨some 47, .move (.tmp 46), _, _, _, none⟩ hS ?_
                refine tV 16 ⟨some 48, .move (.tmp 7), _, _, _, some (15, true)⟩ hS ?_
                refine tV 17 ⟨some 49, .binOp .lss 3 (.tmp 48) (.const (.int .i64 0)) 3, _, _, _, some (15, true)⟩ hS ?_
                refine tV 18 ⟨some 50, .move (.tmp 49), _, _, _, some (15, true)⟩ hS ?_
                refine tV 19 ⟨some 51, .fieldAddr 53 (.tmp 9) 0, _, _, _, some (18, false)⟩ hS ?_
                refine tL 20 ⟨some 52, .load 9 (.tmp 51), _, _, _, some (18, false)⟩ hS ?_
                refine tV 21 ⟨some 53, .fieldAddr 78 (.tmp 2) 0, _, _, _, some (18, false)⟩ hS ?_
                refine tL 22 ⟨some 54, .load 22 (.tmp 53), _, _, _, some (18, false)⟩ hS ?_
                refine tV 23 ⟨some 55, .move (.tmp 5), _, _, _, some (18, false)⟩ hS ?_
                refine tV 24 ⟨some 56, .move (.tmp 7), _, _, _, some (18, false)⟩ hS ?_
                refine tV 25 ⟨some 57, .indexAddr 110 (.tmp 55) (.tmp 56), _, _, _, some (18, false)⟩ hS ?_
                refine tL 26 ⟨some 58, .load 3 (.tmp 57), _, _, _, some (18, false)⟩ hS ?_
                refine tV 27 ⟨some 59, .indexAddr 22 (.tmp 54) (.tmp 58), _, _, _, some (18, false)⟩ hS ?_
                refine tV 28 ⟨some 60, .fieldAddr 53 (.tmp 59) 0, _, _, _, some (18, false)⟩ hS ?_
                refine tL 29 ⟨some 61, .load 9 (.tmp 60), _, _, _, some (18, false)⟩ hS ?_
                refine tV 30 ⟨some 62, .binOp .lss 9 (.tmp 52) (.tmp 61) 9, _, _, _, some (18, false)⟩ hS ?_
                refine tV 31 ⟨some 63, .pick (.tmp 50) (.const (.bool true)) (.tmp 62), _, _, _, some (15, true)⟩ hS ?_
                refine tV 32 ⟨some 64, .pick (.tmp 47) (.tmp 63) (.const (.bool false)), _, _, _, none⟩ hS ?_
                refine wpAnyH_done (by kernel_rfl) ?_ _
                clear hS
                go_wp2
                go_roundw
                case rel => exact ⟨j + 1, by omega, by first | rfl | simp, HB.out, hE.drew.tail⟩
                case measure => simp [intOf] <;> omega
              | false =>
                have HB := SL.hid (HBk.out hlt2)
                clear HBl HBk
                go_wp2
                refine wp_region_held_drew (S := (fun w' => ((Instr.loadAt 9 (.pointer (some ⟨b9, 0, none⟩))).run Tryd.prog w' = .ok (.string ⟨xp.toArray⟩) w') ∧ ((Instr.loadAt 22 (.pointer (some ⟨b2, 0, none⟩))).run Tryd.prog w' = .ok (.slice (some ⟨b, off, none⟩) L.length c) w') ∧ ((Instr.loadAt 3 (.pointer (some ⟨gk, bb, none⟩))).run Tryd.prog w' = .ok (.int .i64 (kb2 : Int)) w') ∧ ((Instr.loadAt 9 (.pointer (some ⟨b, off + kb2 * 3, none⟩))).run Tryd.prog w' = .ok (.string ⟨yp.toArray⟩) w'))) (by kernel_rfl) ⟨(atVm hE.drew (by repeat (first | exact List.Mem.head _ | refine List.Mem.tail _ ?_)) (by simp [go_sem]) rfl), (atVm hE.drew (by repeat (first | exact List.Mem.head _ | refine List.Mem.tail _ ?_)) (by simp [go_sem]) rfl), (Nb.out _ _ hE.drew.tail.tail), ((Lb.out _ (hE.drew.suf (by repeat (first | exact List.suffix_refl _ | refine List.IsSuffix.trans ?_ (List.suffix_cons _ _) | refine List.IsSuffix.trans ?_ (List.suffix_append _ _))))).2)⟩ (fun hS => ?_)
                refine tV 0 ⟨some 32, .move (.tmp 6), _, _, _, none⟩ hS ?_
                refine tV 1 ⟨some 33, .call { callee := .builtin .len, args := #[.tmp 32], argTypes := #[22] }, _, _, _, none⟩ hS ?_
                refine tV 2 ⟨some 34, .binOp .eql 3 (.tmp 33) (.const (.int .i64 0)) 3, _, _, _, none⟩ hS ?_
                refine tV 3 ⟨some 35, .move (.tmp 34), _, _, _, none⟩ hS ?_
                refine tU 4 ⟨some 36, .fieldAddr 53 (.tmp 9) 0, _, _, _, some (3, false)⟩ hS ?_
                refine tU 5 ⟨some 37, .load 9 (.tmp 36), _, _, _, some (3, false)⟩ hS ?_
                refine tU 6 ⟨some 38, .move (.tmp 6), _, _, _, some (3, false)⟩ hS ?_
                refine tU 7 ⟨some 39, .move (.tmp 6), _, _, _, some (3, false)⟩ hS ?_
                refine tU 8 ⟨some 40, .call { callee := .builtin .len, args := #[.tmp 39], argTypes := #[22] }, _, _, _, some (3, false)⟩ hS ?_
                refine tU 9 ⟨some 41, .binOp .sub 3 (.tmp 40) (.const (.int .i64 1)) 3, _, _, _, some (3, false)⟩ hS ?_
                refine tU 10 ⟨some 42, .indexAddr 22 (.tmp 38) (.tmp 41), _, _, _, some (3, false)⟩ hS ?_
                refine tU 11 ⟨some 43, .fieldAddr 53 (.tmp 42) 0, _, _, _, some (3, false)⟩ hS ?_
                refine tU 12 ⟨some 44, .load 9 (.tmp 43), _, _, _, some (3, false)⟩ hS ?_
                refine tU 13 ⟨some 45, .binOp .gtr 9 (.tmp 37) (.tmp 44) 9, _, _, _, some (3, false)⟩ hS ?_
                refine tV 14 ⟨some 46, .pick (.tmp 35) (.const (.bool true)) (.tmp 45), _, _, _, none⟩ hS ?_
                refine tV 15 ⟨some 47, .move (.tmp 46), _, _, _, none⟩ hS ?_
                refine tV 16 ⟨some 48, .move (.tmp 7), _, _, _, some (15, true)⟩ hS ?_
                refine tV 17 ⟨some 49, .binOp .lss 3 (.tmp 48) (.const (.int .i64 0)) 3, _, _, _, some (15, true)⟩ hS ?_
                refine tV 18 ⟨some 50, .move (.tmp 49), _, _, _, some (15, true)⟩ hS ?_
                refine tV 19 ⟨some 51, .fieldAddr 53 (.tmp 9) 0, _, _, _, some (18, false)⟩ hS ?_
                refine tL 20 ⟨some 52, .load 9 (.tmp 51), _, _, _, some (18, false)⟩ hS ?_
                refine tV 21 ⟨some 53, .fieldAddr 78 (.tmp 2) 0, _, _, _, some (18, false)⟩ hS ?_
                refine tL 22 ⟨some 54, .load 22 (.tmp 53), _, _, _, some (18, false)⟩ hS ?_
                refine tV 23 ⟨some 55, .move (.tmp 5), _, _, _, some (18, false)⟩ hS ?_
                refine tV 24 ⟨some 56, .move (.tmp 7), _, _, _, some (18, false)⟩ hS ?_
                refine tV 25 ⟨some 57, .indexAddr 110 (.tmp 55) (.tmp 56), _, _, _, some (18, false)⟩ hS ?_
                refine tL 26 ⟨some 58, .load 3 (.tmp 57), _, _, _, some (18, false)⟩ hS ?_
                refine tV 27 ⟨some 59, .indexAddr 22 (.tmp 54) (.tmp 58), _, _, _, some (18, false)⟩ hS ?_
                refine tV 28 ⟨some 60, .fieldAddr 53 (.tmp 59) 0, _, _, _, some (18, false)⟩ hS ?_
                refine tL 29 ⟨some 61, .load 9 (.tmp 60), _, _, _, some (18, false)⟩ hS ?_
                refine tV 30 ⟨some 62, .binOp .lss 9 (.tmp 52) (.tmp 61) 9, _, _, _, some (18, false)⟩ hS ?_
                refine tV 31 ⟨some 63, .pick (.tmp 50) (.const (.bool true)) (.tmp 62), _, _, _, some (15, true)⟩ hS ?_
                refine tV 32 ⟨some 64, .pick (.tmp 47) (.tmp 63) (.const (.bool false)), _, _, _, none⟩ hS ?_
                refine wpAnyH_done (by kernel_rfl) ?_ _
                clear hS
                go_wp2
                go_roundw
                case rel => exact ⟨j + 1, by omega, by first | rfl | simp, HB.out, hE.drew.tail⟩
                case measure => simp [intOf] <;> omega
          · have hkp : 0 < k := by omega
            obtain ⟨gr, rfl, _, _⟩ := hE.rowIs 1 rfl (by omega)
            have HR := SL.hid (hrowk.out hkp)
            have HD1 := SL.hid (HC1.out hkp)
            have HD2 := SL.hid (HC2.out hkp)
            obtain ⟨lp, hlp⟩ : ∃ x, (S[k - 1]'(by omega)).path = x := ⟨_, rfl⟩
            simp only [hlp] at HR HD1 HD2
            clear hlp hrowk HC0 HC1 HC2
            obtain ⟨i, hi⟩ : ∃ i, k - 1 = i := ⟨_, rfl⟩
            have hwk1 : wrap64 ((k : Int) - 1) = (i : Int) := by unfold wrap64; omega
            have hwk2 : IntKind.i64.wrap ((k : Int) - 1) = (i : Int) := by
              simp only [IntKind.wrap, IntKind.bits, IntKind.signed]
              simp
              omega
            have hik : (i : Int) < (k : Int) := by omega
            have hkz : ((k : Int) == 0) = false := by simp; omega
            rw [hi] at HR
            clear hi
            cases hx1 : Op.bytesLess xp lp with
            | true =>
              have HB := SL.hid (hbest.skip hj (HD2.out (bl_asymm hx1)))
              clear hbest HD1 HD2
              go_wp2
              refine wp_region_held_drew (S := (fun w' => ((Instr.loadAt 9 (.pointer (some ⟨b9, 0, none⟩))).run Tryd.prog w' = .ok (.string ⟨xp.toArray⟩) w') ∧ ((Instr.loadAt 9 (.pointer (some ⟨gr, i * 3, none⟩))).run Tryd.prog w' = .ok (.string ⟨lp.toArray⟩) w'))) (by kernel_rfl) ⟨(atVm hE.drew (by repeat (first | exact List.Mem.head _ | refine List.Mem.tail _ ?_)) (by simp [go_sem]) rfl), (HR.out _ _ _ hE.drew.tail)⟩ (fun hS => ?_)
              refine tV 0 ⟨some 32, .move (.tmp 6), _, _, _, none⟩ hS ?_
              refine tV 1 ⟨some 33, .call { callee := .builtin .len, args := #[.tmp 32], argTypes := #[22] }, _, _, _, none⟩ hS ?_
              refine tV 2 ⟨some 34, .binOp .eql 3 (.tmp 33) (.const (.int .i64 0)) 3, _, _, _, none⟩ hS ?_
              refine tV 3 ⟨some 35, .move (.tmp 34), _, _, _, none⟩ hS ?_
              refine tV 4 ⟨some 36, .fieldAddr 53 (.tmp 9) 0, _, _, _, some (3, false)⟩ hS ?_
              refine tL 5 ⟨some 37, .load 9 (.tmp 36), _, _, _, some (3, false)⟩ hS ?_
              refine tV 6 ⟨some 38, .move (.tmp 6), _, _, _, some (3, false)⟩ hS ?_
              refine tV 7 ⟨some 39, .move (.tmp 6), _, _, _, some (3, false)⟩ hS ?_
              refine tV 8 ⟨some 40, .call { callee := .builtin .len, args := #[.tmp 39], argTypes := #[22] }, _, _, _, some (3, false)⟩ hS ?_
              refine tV 9 ⟨some 41, .binOp .sub 3 (.tmp 40) (.const (.int .i64 1)) 3, _, _, _, some (3, false)⟩ hS ?_
              refine tV 10 ⟨some 42, .indexAddr 22 (.tmp 38) (.tmp 41), _, _, _, some (3, false)⟩ hS ?_
              refine tV 11 ⟨some 43, .fieldAddr 53 (.tmp 42) 0, _, _, _, some (3, false)⟩ hS ?_
              refine tL 12 ⟨some 44, .load 9 (.tmp 43), _, _, _, some (3, false)⟩ hS ?_
              refine tV 13 ⟨some 45, .binOp .gtr 9 (.tmp 37) (.tmp 44) 9, _, _, _, some (3, false)⟩ hS ?_
              refine tV 14 ⟨some 46, .pick (.tmp 35) (.const (.bool true)) (.tmp 45), _, _, _, none⟩ hS ?_
              refine tV 15 ⟨some 47, .move (.tmp 46), _, _, _, none⟩ hS ?_
              refine tU 16 ⟨some 48, .move (.tmp 7), _, _, _, some (15, true)⟩ hS ?_
              refine tU 17 ⟨some 49, .binOp .lss 3 (.tmp 48) (.const (.int .i64 0)) 3, _, _, _, some (15, true)⟩ hS ?_
              refine tU 18 ⟨some 50, .move (.tmp 49), _, _, _, some (15, true)⟩ hS ?_
              refine tU 19 ⟨some 51, .fieldAddr 53 (.tmp 9) 0, _, _, _, some (18, false)⟩ hS ?_
              refine tU 20 ⟨some 52, .load 9 (.tmp 51), _, _, _, some (18, false)⟩ hS ?_
              refine tU 21 ⟨some 53, .fieldAddr 78 (.tmp 2) 0, _, _, _, some (18, false)⟩ hS ?_
              refine tU 22 ⟨some 54, .load 22 (.tmp 53), _, _, _, some (18, false)⟩ hS ?_
              refine tU 23 ⟨some 55, .move (.tmp 5), _, _, _, some (18, false)⟩ hS ?_
              refine tU 24 ⟨some 56, .move (.tmp 7), _, _, _, some (18, false)⟩ hS ?_
              refine tU 25 ⟨some 57, .indexAddr 110 (.tmp 55) (.tmp 56), _, _, _, some (18, false)⟩ hS ?_
              refine tU 26 ⟨some 58, .load 3 (.tmp 57), _, _, _, some (18, false)⟩ hS ?_
              refine tU 27 ⟨some 59, .indexAddr 22 (.tmp 54) (.tmp 58), _, _, _, some (18, false)⟩ hS ?_
              refine tU 28 ⟨some 60, .fieldAddr 53 (.tmp 59) 0, _, _, _, some (18, false)⟩ hS ?_
              refine tU 29 ⟨some 61, .load 9 (.tmp 60), _, _, _, some (18, false)⟩ hS ?_
              refine tU 30 ⟨some 62, .binOp .lss 9 (.tmp 52) (.tmp 61) 9, _, _, _, some (18, false)⟩ hS ?_
              refine tU 31 ⟨some 63, .pick (.tmp 50) (.const (.bool true)) (.tmp 62), _, _, _, some (15, true)⟩ hS ?_
              refine tV 32 ⟨some 64, .pick (.tmp 47) (.tmp 63) (.const (.bool false)), _, _, _, none⟩ hS ?_
              refine wpAnyH_done (by kernel_rfl) ?_ _
              clear hS
              go_wp2
              go_roundw
              case rel => exact ⟨j + 1, by omega, by first | rfl | simp, HB.out, hE.drew.tail⟩
              case measure => simp [intOf] <;> omega
            | false =>
              cases hx2 : (xp == lp) with
              | true =>
                have HB := SL.hid (hbest.skip hj (HD2.out (by rw [eq_of_beq hx2]; exact bl_irrefl _)))
                clear hbest HD1 HD2
                go_wp2
                refine wp_region_held_drew (S := (fun w' => ((Instr.loadAt 9 (.pointer (some ⟨b9, 0, none⟩))).run Tryd.prog w' = .ok (.string ⟨xp.toArray⟩) w') ∧ ((Instr.loadAt 9 (.pointer (some ⟨gr, i * 3, none⟩))).run Tryd.prog w' = .ok (.string ⟨lp.toArray⟩) w'))) (by kernel_rfl) ⟨(atVm hE.drew (by repeat (first | exact List.Mem.head _ | refine List.Mem.tail _ ?_)) (by simp [go_sem]) rfl), (HR.out _ _ _ hE.drew.tail)⟩ (fun hS => ?_)
                refine tV 0 ⟨some 32, .move (.tmp 6), _, _, _, none⟩ hS ?_
                refine tV 1 ⟨some 33, .call { callee := .builtin .len, args := #[.tmp 32], argTypes := #[22] }, _, _, _, none⟩ hS ?_
                refine tV 2 ⟨some 34, .binOp .eql 3 (.tmp 33) (.const (.int .i64 0)) 3, _, _, _, none⟩ hS ?_
                refine tV 3 ⟨some 35, .move (.tmp 34), _, _, _, none⟩ hS ?_
                refine tV 4 ⟨some 36, .fieldAddr 53 (.tmp 9) 0, _, _, _, some (3, false)⟩ hS ?_
                refine tL 5 ⟨some 37, .load 9 (.tmp 36), _, _, _, some (3, false)⟩ hS ?_
                refine tV 6 ⟨some 38, .move (.tmp 6), _, _, _, some (3, false)⟩ hS ?_
                refine tV 7 ⟨some 39, .move (.tmp 6), _, _, _, some (3, false)⟩ hS ?_
                refine tV 8 ⟨some 40, .call { callee := .builtin .len, args := #[.tmp 39], argTypes := #[22] }, _, _, _, some (3, false)⟩ hS ?_
                refine tV 9 ⟨some 41, .binOp .sub 3 (.tmp 40) (.const (.int .i64 1)) 3, _, _, _, some (3, false)⟩ hS ?_
                refine tV 10 ⟨some 42, .indexAddr 22 (.tmp 38) (.tmp 41), _, _, _, some (3, false)⟩ hS ?_
                refine tV 11 ⟨some 43, .fieldAddr 53 (.tmp 42) 0, _, _, _, some (3, false)⟩ hS ?_
                refine tL 12 ⟨some 44, .load 9 (.tmp 43), _, _, _, some (3, false)⟩ hS ?_
                refine tV 13 ⟨some 45, .binOp .gtr 9 (.tmp 37) (.tmp 44) 9, _, _, _, some (3, false)⟩ hS ?_
                refine tV 14 ⟨some 46, .pick (.tmp 35) (.const (.bool true)) (.tmp 45), _, _, _, none⟩ hS ?_
                refine tV 15 ⟨some 47, .move (.tmp 46), _, _, _, none⟩ hS ?_
                refine tU 16 ⟨some 48, .move (.tmp 7), _, _, _, some (15, true)⟩ hS ?_
                refine tU 17 ⟨some 49, .binOp .lss 3 (.tmp 48) (.const (.int .i64 0)) 3, _, _, _, some (15, true)⟩ hS ?_
                refine tU 18 ⟨some 50, .move (.tmp 49), _, _, _, some (15, true)⟩ hS ?_
                refine tU 19 ⟨some 51, .fieldAddr 53 (.tmp 9) 0, _, _, _, some (18, false)⟩ hS ?_
                refine tU 20 ⟨some 52, .load 9 (.tmp 51), _, _, _, some (18, false)⟩ hS ?_
                refine tU 21 ⟨some 53, .fieldAddr 78 (.tmp 2) 0, _, _, _, some (18, false)⟩ hS ?_
                refine tU 22 ⟨some 54, .load 22 (.tmp 53), _, _, _, some (18, false)⟩ hS ?_
                refine tU 23 ⟨some 55, .move (.tmp 5), _, _, _, some (18, false)⟩ hS ?_
                refine tU 24 ⟨some 56, .move (.tmp 7), _, _, _, some (18, false)⟩ hS ?_
                refine tU 25 ⟨some 57, .indexAddr 110 (.tmp 55) (.tmp 56), _, _, _, some (18, false)⟩ hS ?_
                refine tU 26 ⟨some 58, .load 3 (.tmp 57), _, _, _, some (18, false)⟩ hS ?_
                refine tU 27 ⟨some 59, .indexAddr 22 (.tmp 54) (.tmp 58), _, _, _, some (18, false)⟩ hS ?_
                refine tU 28 ⟨some 60, .fieldAddr 53 (.tmp 59) 0, _, _, _, some (18, false)⟩ hS ?_
                refine tU 29 ⟨some 61, .load 9 (.tmp 60), _, _, _, some (18, false)⟩ hS ?_
                refine tU 30 ⟨some 62, .binOp .lss 9 (.tmp 52) (.tmp 61) 9, _, _, _, some (18, false)⟩ hS ?_
                refine tU 31 ⟨some 63, .pick (.tmp 50) (.const (.bool true)) (.tmp 62), _, _, _, some (15, true)⟩ hS ?_
                refine tV 32 ⟨some 64, .pick (.tmp 47) (.tmp 63) (.const (.bool false)), _, _, _, none⟩ hS ?_
                refine wpAnyH_done (by kernel_rfl) ?_ _
                clear hS
                go_wp2
                go_roundw
                case rel => exact ⟨j + 1, by omega, by first | rfl | simp, HB.out, hE.drew.tail⟩
                case measure => simp [intOf] <;> omega
              | false =>
                have HCand := SL.hid (HD1.out (bl_total (by simpa using hx2) hx1))
                clear HD1 HD2
                rcases hbest with ⟨rfl, hno⟩ | ⟨bb, hbb, hbj, rfl, hcb, hmin⟩
                · have HB := SL.hid (Best.first hno hj HCand.out)
                  clear hno
                  go_wp2
                  refine wp_region_held_drew (S := (fun w' => ((Instr.loadAt 9 (.pointer (some ⟨b9, 0, none⟩))).run Tryd.prog w' = .ok (.string ⟨xp.toArray⟩) w') ∧ ((Instr.loadAt 9 (.pointer (some ⟨gr, i * 3, none⟩))).run Tryd.prog w' = .ok (.string ⟨lp.toArray⟩) w'))) (by kernel_rfl) ⟨(atVm hE.drew (by repeat (first | exact List.Mem.head _ | refine List.Mem.tail _ ?_)) (by simp [go_sem]) rfl), (HR.out _ _ _ hE.drew.tail)⟩ (fun hS => ?_)
                  refine tV 0 ⟨some 32, .move (.tmp 6), _, _, _, none⟩ hS ?_
                  refine tV 1 ⟨some 33, .call { callee := .builtin .len, args := #[.tmp 32], argTypes := #[22] }, _, _, _, none⟩ hS ?_
                  refine tV 2 ⟨some 34, .binOp .eql 3 (.tmp 33) (.const (.int .i64 0)) 3, _, _, _, none⟩ hS ?_
                  refine tV 3 ⟨some 35, .move (.tmp 34), _, _, _, none⟩ hS ?_
                  refine tV 4 ⟨some 36, .fieldAddr 53 (.tmp 9) 0, _, _, _, some (3, false)⟩ hS ?_
                  refine tL 5 ⟨some 37, .load 9 (.tmp 36), _, _, _, some (3, false)⟩ hS ?_
                  refine tV 6 ⟨some 38, .move (.tmp 6), _, _, _, some (3, false)⟩ hS ?_
                  refine tV 7 ⟨some 39, .move (.tmp 6), _, _, _, some (3, false)⟩ hS ?_
                  refine tV 8 ⟨some 40, .call { callee := .builtin .len, args := #[.tmp 39], argTypes := #[22] }, _, _, _, some (3, false)⟩ hS ?_
                  refine tV 9 ⟨some 41, .binOp .sub 3 (.tmp 40) (.const (.int .i64 1)) 3, _, _, _, some (3, false)⟩ hS ?_
                  refine tV 10 ⟨some 42, .indexAddr 22 (.tmp 38) (.tmp 41), _, _, _, some (3, false)⟩ hS ?_
                  refine tV 11 ⟨some 43, .fieldAddr 53 (.tmp 42) 0, _, _, _, some (3, false)⟩ hS ?_
                  refine tL 12 ⟨some 44, .load 9 (.tmp 43), _, _, _, some (3, false)⟩ hS ?_
                  refine tV 13 ⟨some 45, .binOp .gtr 9 (.tmp 37) (.tmp 44) 9, _, _, _, some (3, false)⟩ hS ?_
                  refine tV 14 ⟨some 46, .pick (.tmp 35) (.const (.bool true)) (.tmp 45), _, _, _, none⟩ hS ?_
                  refine tV 15 ⟨some 47, .move (.tmp 46), _, _, _, none⟩ hS ?_
                  refine tV 16 ⟨some 48, .move (.tmp 7), _, _, _, some (15, true)⟩ hS ?_
                  refine tV 17 ⟨some 49, .binOp .lss 3 (.tmp 48) (.const (.int .i64 0)) 3, _, _, _, some (15, true)⟩ hS ?_
                  refine tV 18 ⟨some 50, .move (.tmp 49), _, _, _, some (15, true)⟩ hS ?_
                  refine tU 19 ⟨some 51, .fieldAddr 53 (.tmp 9) 0, _, _, _, some (18, false)⟩ hS ?_
                  refine tU 20 ⟨some 52, .load 9 (.tmp 51), _, _, _, some (18, false)⟩ hS ?_
                  refine tU 21 ⟨some 53, .fieldAddr 78 (.tmp 2) 0, _, _, _, some (18, false)⟩ hS ?_
                  refine tU 22 ⟨some 54, .load 22 (.tmp 53), _, _, _, some (18, false)⟩ hS ?_
                  refine tU 23 ⟨some 55, .move (.tmp 5), _, _, _, some (18, false)⟩ hS ?_
                  refine tU 24 ⟨some 56, .move (.tmp 7), _, _, _, some (18, false)⟩ hS ?_
                  refine tU 25 ⟨some 57, .indexAddr 110 (.tmp 55) (.tmp 56), _, _, _, some (18, false)⟩ hS ?_
                  refine tU 26 ⟨some 58, .load 3 (.tmp 57), _, _, _, some (18, false)⟩ hS ?_
                  refine tU 27 ⟨some 59, .indexAddr 22 (.tmp 54) (.tmp 58), _, _, _, some (18, false)⟩ hS ?_
                  refine tU 28 ⟨some 60, .fieldAddr 53 (.tmp 59) 0, _, _, _, some (18, false)⟩ hS ?_
                  refine tU 29 ⟨some 61, .load 9 (.tmp 60), _, _, _, some (18, false)⟩ hS ?_
                  refine tU 30 ⟨some 62, .binOp .lss 9 (.tmp 52) (.tmp 61) 9, _, _, _, some (18, false)⟩ hS ?_
                  refine tV 31 ⟨some 63, .pick (.tmp 50) (.const (.bool true)) (.tmp 62), _, _, _, some (15, true)⟩ hS ?_
                  refine tV 32 ⟨some 64, .pick (.tmp 47) (.tmp 63) (.const (.bool false)), _, _, _, none⟩ hS ?_
                  refine wpAnyH_done (by kernel_rfl) ?_ _
                  clear hS
                  go_wp2
                  go_roundw
                  case rel => exact ⟨j + 1, by omega, by first | rfl | simp, HB.out, hE.drew.tail⟩
                  case measure => simp [intOf] <;> omega
                · have hbk : bb < ki.length := by rw [← HDn.out]; exact hbb
                  obtain ⟨kb2, hkb2⟩ : ∃ x, ki[bb] = x := ⟨_, rfl⟩
                  have hbb3 := kb.out bb hbk
                  have nb := nk.out bb hbk
                  have lb := ld.out bb hbk
                  rw [hkb2] at hbb3 nb lb
                  have hkb3 : (kb2 : Int) < (L.length : Int) := by omega
                  have hkb4 : (bb : Int) < (ki.length : Int) := by omega
                  have hb0 : ¬ ((bb : Int) < 0) := by omega
                  have HBl := SL.hid (fun h => Best.less hbb hmin hj HCand.out h)
                  have HBk := SL.hid (fun h => Best.keep hbb hbj hcb hmin hj h)
                  rw [Hxp.out] at HBl HBk
                  obtain ⟨yp, hyp⟩ : ∃ x, (D[bb]'hbb).path = x := ⟨_, rfl⟩
                  rw [hyp] at lb HBl HBk
                  have Nb := SL.hid nb
                  have Lb := SL.hid lb
                  clear nb lb hkb2 hyp hmin hcb hbb3
                  cases hlt2 : Op.bytesLess xp yp with
                  | true =>
                    have HB := SL.hid (HBl.out hlt2)
                    clear HBl HBk
                    go_wp2
                    refine wp_region_held_drew (S := (fun w' => ((Instr.loadAt 9 (.pointer (some ⟨b9, 0, none⟩))).run Tryd.prog w' = .ok (.string ⟨xp.toArray⟩) w') ∧ ((Instr.loadAt 9 (.pointer (some ⟨gr, i * 3, none⟩))).run Tryd.prog w' = .ok (.string ⟨lp.toArray⟩) w') ∧ ((Instr.loadAt 22 (.pointer (some ⟨b2, 0, none⟩))).run Tryd.prog w' = .ok (.slice (some ⟨b, off, none⟩) L.length c) w') ∧ ((Instr.loadAt 3 (.pointer (some ⟨gk, bb, none⟩))).run Tryd.prog w' = .ok (.int .i64 (kb2 : Int)) w') ∧ ((Instr.loadAt 9 (.pointer (some ⟨b, off + kb2 * 3, none⟩))).run Tryd.prog w' = .ok (.string ⟨yp.toArray⟩) w'))) (by kernel_rfl) ⟨(atVm hE.drew (by repeat (first | exact List.Mem.head _ | refine List.Mem.tail _ ?_)) (by simp [go_sem]) rfl), (HR.out _ _ _ hE.drew.tail), (atVm hE.drew (by repeat (first | exact List.Mem.head _ | refine List.Mem.tail _ ?_)) (by simp [go_sem]) rfl), (Nb.out _ _ hE.drew.tail.tail), ((Lb.out _ (hE.drew.suf (by repeat (first | exact List.suffix_refl _ | refine List.IsSuffix.trans ?_ (List.suffix_cons _ _) | refine List.IsSuffix.trans ?_ (List.suffix_append _ _))))).2)⟩ (fun hS => ?_)
                    refine tV 0 ⟨some 32, .move (.tmp 6), _, _, _, none⟩ hS ?_
                    refine tV 1 ⟨some 33, .call { callee := .builtin .len, args := #[.tmp 32], argTypes := #[22] }, _, _, _, none⟩ hS ?_
                    refine tV 2 ⟨some 34, .binOp .eql 3 (.tmp 33) (.const (.int .i64 0)) 3, _, _, _, none⟩ hS ?_
                    refine tV 3 ⟨some 35, .move (.tmp 34), _, _, _, none⟩ hS ?_
                    refine tV 4 ⟨some 36, .fieldAddr 53 (.tmp 9) 0, _, _, _, some (3, false)⟩ hS ?_
                    refine tL 5 ⟨some 37, .load 9 (.tmp 36), _, _, _, some (3, false)⟩ hS ?_
                    refine tV 6 ⟨some 38, .move (.tmp 6), _, _, _, some (3, false)⟩ hS ?_
                    refine tV 7 ⟨some 39, .move (.tmp 6), _, _, _, some (3, false)⟩ hS ?_
                    refine tV 8 ⟨some 40, .call { callee := .builtin .len, args := #[.tmp 39], argTypes := #[22] }, _, _, _, some (3, false)⟩ hS ?_
                    refine tV 9 ⟨some 41, .binOp .sub 3 (.tmp 40) (.const (.int .i64 1)) 3, _, _, _, some (3, false)⟩ hS ?_
                    refine tV 10 ⟨some 42, .indexAddr 22 (.tmp 38) (.tmp 41), _, _, _, some (3, false)⟩ hS ?_
                    refine tV 11 ⟨some 43, .fieldAddr 53 (.tmp 42) 0, _, _, _, some (3, false)⟩ hS ?_
                    refine tL 12 ⟨some 44, .load 9 (.tmp 43), _, _, _, some (3, false)⟩ hS ?_
                    refine tV 13 ⟨some 45, .binOp .gtr 9 (.tmp 37) (.tmp 44) 9, _, _, _, some (3, false)⟩ hS ?_
                    refine tV 14 ⟨some 46, .pick (.tmp 35) (.const (.bool true)) (.tmp 45), _, _, _, none⟩ hS ?_
                    refine tV 15 ⟨some 47, .move (.tmp 46), _, _, _, none⟩ hS ?_
                    refine tV 16 ⟨some 48, .move (.tmp 7), _, _, _, some (15, true)⟩ hS ?_
                    refine tV 17 ⟨some 49, .binOp .lss 3 (.tmp 48) (.const (.int .i64 0)) 3, _, _, _, some (15, true)⟩ hS ?_
                    refine tV 18 ⟨some 50, .move (.tmp 49), _, _, _, some (15, true)⟩ hS ?_
                    refine tV 19 ⟨some 51, .fieldAddr 53 (.tmp 9) 0, _, _, _, some (18, false)⟩ hS ?_
                    refine tL 20 ⟨some 52, .load 9 (.tmp 51), _, _, _, some (18, false)⟩ hS ?_
                    refine tV 21 ⟨some 53, .fieldAddr 78 (.tmp 2) 0, _, _, _, some (18, false)⟩ hS ?_
                    refine tL 22 ⟨some 54, .load 22 (.tmp 53), _, _, _, some (18, false)⟩ hS ?_
                    refine tV 23 ⟨some 55, .move (.tmp 5), _, _, _, some (18, false)⟩ hS ?_
                    refine tV 24 ⟨some 56, .move (.tmp 7), _, _, _, some (18, false)⟩ hS ?_
                    refine tV 25 ⟨some 57, .indexAddr 110 (.tmp 55) (.tmp 56), _, _, _, some (18, false)⟩ hS ?_
                    refine tL 26 ⟨some 58, .load 3 (.tmp 57), _, _, _, some (18, false)⟩ hS ?_
                    refine tV 27 ⟨some 59, .indexAddr 22 (.tmp 54) (.tmp 58), _, _, _, some (18, false)⟩ hS ?_
                    refine tV 28 ⟨some 60, .fieldAddr 53 (.tmp 59) 0, _, _, _, some (18, false)⟩ hS ?_
                    refine tL 29 ⟨some 61, .load 9 (.tmp 60), _, _, _, some (18, false)⟩ hS ?_
                    refine tV 30 ⟨some 62, .binOp .lss 9 (.tmp 52) (.tmp 61) 9, _, _, _, some (18, false)⟩ hS ?_
                    refine tV 31 ⟨some 63, .pick (.tmp 50) (.const (.bool true)) (.tmp 62), _, _, _, some (15, true)⟩ hS ?_
                    refine tV 32 ⟨some 64, .pick (.tmp 47) (.tmp 63) (.const (.bool false)), _, _, _, none⟩ hS ?_
                    refine wpAnyH_done (by kernel_rfl) ?_ _
                    clear hS
                    go_wp2
                    go_roundw
                    case rel => exact ⟨j + 1, by omega, by first | rfl | simp, HB.out, hE.drew.tail⟩
                    case measure => simp [intOf] <;> omega
                  | false =>
                    have HB := SL.hid (HBk.out hlt2)
                    clear HBl HBk
                    go_wp2
                    refine wp_region_held_drew (S := (fun w' => ((Instr.loadAt 9 (.pointer (some ⟨b9, 0, none⟩))).run Tryd.prog w' = .ok (.string ⟨xp.toArray⟩) w') ∧ ((Instr.loadAt 9 (.pointer (some ⟨gr, i * 3, none⟩))).run Tryd.prog w' = .ok (.string ⟨lp.toArray⟩) w') ∧ ((Instr.loadAt 22 (.pointer (some ⟨b2, 0, none⟩))).run Tryd.prog w' = .ok (.slice (some ⟨b, off, none⟩) L.length c) w') ∧ ((Instr.loadAt 3 (.pointer (some ⟨gk, bb, none⟩))).run Tryd.prog w' = .ok (.int .i64 (kb2 : Int)) w') ∧ ((Instr.loadAt 9 (.pointer (some ⟨b, off + kb2 * 3, none⟩))).run Tryd.prog w' = .ok (.string ⟨yp.toArray⟩) w'))) (by kernel_rfl) ⟨(atVm hE.drew (by repeat (first | exact List.Mem.head _ | refine List.Mem.tail _ ?_)) (by simp [go_sem]) rfl), (HR.out _ _ _ hE.drew.tail), (atVm hE.drew (by repeat (first | exact List.Mem.head _ | refine List.Mem.tail _ ?_)) (by simp [go_sem]) rfl), (Nb.out _ _ hE.drew.tail.tail), ((Lb.out _ (hE.drew.suf (by repeat (first | exact List.suffix_refl _ | refine List.IsSuffix.trans ?_ (List.suffix_cons _ _) | refine List.IsSuffix.trans ?_ (List.suffix_append _ _))))).2)⟩ (fun hS => ?_)
                    refine tV 0 ⟨some 32, .move (.tmp 6), _, _, _, none⟩ hS ?_
                    refine tV 1 ⟨some 33, .call { callee := .builtin .len, args := #[.tmp 32], argTypes := #[22] }, _, _, _, none⟩ hS ?_
                    refine tV 2 ⟨some 34, .binOp .eql 3 (.tmp 33) (.const (.int .i64 0)) 3, _, _, _, none⟩ hS ?_
                    refine tV 3 ⟨some 35, .move (.tmp 34), _, _, _, none⟩ hS ?_
                    refine tV 4 ⟨some 36, .fieldAddr 53 (.tmp 9) 0, _, _, _, some (3, false)⟩ hS ?_
                    refine tL 5 ⟨some 37, .load 9 (.tmp 36), _, _, _, some (3, false)⟩ hS ?_
                    refine tV 6 ⟨some 38, .move (.tmp 6), _, _, _, some (3, false)⟩ hS ?_
                    refine tV 7 ⟨some 39, .move (.tmp 6), _, _, _, some (3, false)⟩ hS ?_
                    refine tV 8 ⟨some 40, .call { callee := .builtin .len, args := #[.tmp 39], argTypes := #[22] }, _, _, _, some (3, false)⟩ hS ?_
                    refine tV 9 ⟨some 41, .binOp .sub 3 (.tmp 40) (.const (.int .i64 1)) 3, _, _, _, some (3, false)⟩ hS ?_
                    refine tV 10 ⟨some 42, .indexAddr 22 (.tmp 38) (.tmp 41), _, _, _, some (3, false)⟩ hS ?_
                    refine tV 11 ⟨some 43, .fieldAddr 53 (.tmp 42) 0, _, _, _, some (3, false)⟩ hS ?_
                    refine tL 12 ⟨some 44, .load 9 (.tmp 43), _, _, _, some (3, false)⟩ hS ?_
                    refine tV 13 ⟨some 45, .binOp .gtr 9 (.tmp 37) (.tmp 44) 9, _, _, _, some (3, false)⟩ hS ?_
                    refine tV 14 ⟨some 46, .pick (.tmp 35) (.const (.bool true)) (.tmp 45), _, _, _, none⟩ hS ?_
                    refine tV 15 ⟨some 47, .move (.tmp 46), _, _, _, none⟩ hS ?_
                    refine tV 16 ⟨some 48, .move (.tmp 7), _, _, _, some (15, true)⟩ hS ?_
                    refine tV 17 ⟨some 49, .binOp .lss 3 (.tmp 48) (.const (.int .i64 0)) 3, _, _, _, some (15, true)⟩ hS ?_
                    refine tV 18 ⟨some 50, .move (.tmp 49), _, _, _, some (15, true)⟩ hS ?_
                    refine tV 19 ⟨some 51, .fieldAddr 53 (.tmp 9) 0, _, _, _, some (18, false)⟩ hS ?_
                    refine tL 20 ⟨some 52, .load 9 (.tmp 51), _, _, _, some (18, false)⟩ hS ?_
                    refine tV 21 ⟨some 53, .fieldAddr 78 (.tmp 2) 0, _, _, _, some (18, false)⟩ hS ?_
                    refine tL 22 ⟨some 54, .load 22 (.tmp 53), _, _, _, some (18, false)⟩ hS ?_
                    refine tV 23 ⟨some 55, .move (.tmp 5), _, _, _, some (18, false)⟩ hS ?_
                    refine tV 24 ⟨some 56, .move (.tmp 7), _, _, _, some (18, false)⟩ hS ?_
                    refine tV 25 ⟨some 57, .indexAddr 110 (.tmp 55) (.tmp 56), _, _, _, some (18, false)⟩ hS ?_
                    refine tL 26 ⟨some 58, .load 3 (.tmp 57), _, _, _, some (18, false)⟩ hS ?_
                    refine tV 27 ⟨some 59, .indexAddr 22 (.tmp 54) (.tmp 58), _, _, _, some (18, false)⟩ hS ?_
                    refine tV 28 ⟨some 60, .fieldAddr 53 (.tmp 59) 0, _, _, _, some (18, false)⟩ hS ?_
                    refine tL 29 ⟨some 61, .load 9 (.tmp 60), _, _, _, some (18, false)⟩ hS ?_
                    refine tV 30 ⟨some 62, .binOp .lss 9 (.tmp 52) (.tmp 61) 9, _, _, _, some (18, false)⟩ hS ?_
                    refine tV 31 ⟨some 63, .pick (.tmp 50) (.const (.bool true)) (.tmp 62), _, _, _, some (15, true)⟩ hS ?_
                    refine tV 32 ⟨some 64, .pick (.tmp 47) (.tmp 63) (.const (.bool false)), _, _, _, none⟩ hS ?_
                    refine wpAnyH_done (by kernel_rfl) ?_ _
                    clear hS
                    go_wp2
                    go_roundw
                    case rel => exact ⟨j + 1, by omega, by first | rfl | simp, HB.out, hE.drew.tail⟩
                    case measure => simp [intOf] <;> omega
        · obtain rfl : j = D.length := by omega
          have hnI : ¬ ((D.length : Int) < (ki.length : Int)) := by rw [← HDn.out]; omega
          rcases hbest with ⟨rfl, hno⟩ | ⟨bb, hbb, _, rfl, hcb, hmin⟩
          · obtain ⟨jj, hjj, hc⟩ := some_cand HS.out Hr.out hlt
            exact absurd hc (hno jj hjj hjj)
          · have hres := best_at HS.out Hr.out hlt hbb hcb (fun m h hc => hmin m h h hc)
            have hbk : bb < ki.length := by rw [← HDn.out]; exact hbb
            obtain ⟨kb2, hkb2⟩ : ∃ x, ki[bb] = x := ⟨_, rfl⟩
            have hbb3 := kb.out bb hbk
            have nb := nk.out bb hbk
            have lb := ld.out bb hbk
            rw [hkb2] at hbb3 nb lb
            rw [hres] at lb
            have hkb3 : (kb2 : Int) < (L.length : Int) := by omega
            have hkb4 : (bb : Int) < (ki.length : Int) := by omega
            have hk1000 : k ≤ 1000 := by have := HSn.out; omega
            have Nb := SL.hid nb
            have Lb := SL.hid lb
            clear nb lb hkb2 hmin hcb hbb3 hres
            generalize S[k] = x at *
            obtain ⟨xp, xd, xb⟩ := x
            simp only at Lb
            go_wp2
            refine wp_region_held_drew (S := (fun w' => ((Instr.loadAt 22 (.pointer (some ⟨b2, 0, none⟩))).run Tryd.prog w' = .ok (.slice (some ⟨b, off, none⟩) L.length c) w') ∧ ((Instr.loadAt 3 (.pointer (some ⟨gk, bb, none⟩))).run Tryd.prog w' = .ok (.int .i64 (kb2 : Int)) w') ∧ ((Instr.loadAt 53 (.pointer (some ⟨b, off + kb2 * 3, none⟩))).run Tryd.prog w' = .ok (.agg #[.string ⟨xp.toArray⟩, .bool xd, .string ⟨xb.toArray⟩]) w'))) (by kernel_rfl) ⟨(atVm hE.drew (by repeat (first | exact List.Mem.head _ | refine List.Mem.tail _ ?_)) (by simp [go_sem]) rfl), (Nb.out _ _ hE.drew.tail), ((Lb.out _ (hE.drew.suf (by repeat (first | exact List.suffix_refl _ | refine List.IsSuffix.trans ?_ (List.suffix_cons _ _) | refine List.IsSuffix.trans ?_ (List.suffix_append _ _))))).1)⟩ (fun hS => ?_)
            refine tV 0 ⟨some 66, .move (.tmp 6), _, _, _, none⟩ hS ?_
            refine tV 1 ⟨some 67, .fieldAddr 78 (.tmp 2) 0, _, _, _, none⟩ hS ?_
            refine tL 2 ⟨some 68, .load 22 (.tmp 67), _, _, _, none⟩ hS ?_
            refine tV 3 ⟨some 69, .move (.tmp 5), _, _, _, none⟩ hS ?_
            refine tV 4 ⟨some 70, .move (.tmp 7), _, _, _, none⟩ hS ?_
            refine tV 5 ⟨some 71, .indexAddr 110 (.tmp 69) (.tmp 70), _, _, _, none⟩ hS ?_
            refine tL 6 ⟨some 72, .load 3 (.tmp 71), _, _, _, none⟩ hS ?_
            refine tV 7 ⟨some 73, .indexAddr 22 (.tmp 68) (.tmp 72), _, _, _, none⟩ hS ?_
            refine tL 8 ⟨some 74, .load 53 (.tmp 73), _, _, _, none⟩ hS ?_
            refine wpAnyH_ready (rs := [9]) (by kernel_rfl) (by simp) ?_
            refine (AllReadyH.cons (o := ⟨some 75, .buildSlice 22 1 #[(0, .tmp 74)], _, _, _, none⟩) rfl (fun K hK => ?_) AllReadyH.nil)
            (refine step_build1 hE.drew rfl (by rfl) (xs := enC ⟨xp, xd, xb⟩) (by rfl) Tryd.underlying22 zs_en Tryd.sizeOf53 (by decide) (by decide) rfl ?_; intro g9 w7 hB)
            refine hK.out _ _ ⟨(atVm hB.tail (by repeat (first | exact List.Mem.head _ | refine List.Mem.tail _ ?_)) (by simp [go_sem]) rfl), (Nb.out _ _ hB.tail.tail), ((Lb.out _ (hB.tail.suf (by repeat (first | exact List.suffix_refl _ | refine List.IsSuffix.trans ?_ (List.suffix_cons _ _) | refine List.IsSuffix.trans ?_ (List.suffix_append _ _))))).1)⟩ (fun hS => ?_)
            clear hK K
            try simp only [Act.put, sb, s0, sz]
            refine wpAnyH_ready (rs := [10]) (by kernel_rfl) (by simp) ?_
            refine (AllReadyH.cons (o := ⟨some 76, .call { callee := .builtin .append, args := #[.tmp 66, .tmp 75], argTypes := #[22, 22] }, _, _, _, none⟩) rfl (fun K hK => ?_) AllReadyH.nil)
            (refine step_appendG hB 1 rfl rfl (by rfl) (by rfl) (by rfl) Tryd.underlying22 info_en (by decide) (m := 1) (news := enC ⟨xp, xd, xb⟩) (reads_pt hB 0 rfl (off := 0) (fun j u hu => by rw [Nat.zero_add, List.getElem?_toArray]; exact hu)) rfl (enC_one _) (by omega) (by omega) ?_; intro a2 c2 w8 hC; simp only [List.set_cons_zero, List.set_cons_succ] at hC)
            refine hK.out _ _ ⟨(atVm hC.tail (by repeat (first | exact List.Mem.head _ | refine List.Mem.tail _ ?_)) (by simp [go_sem]) rfl), (Nb.out _ _ hC.tail.tail), ((Lb.out _ (hC.tail.suf (by repeat (first | exact List.suffix_refl _ | refine List.IsSuffix.trans ?_ (List.suffix_cons _ _) | refine List.IsSuffix.trans ?_ (List.suffix_append _ _))))).1)⟩ (fun hS => ?_)
            clear hK K
            try simp only [Act.put, sb, s0, sz]
            refine tV 11 ⟨some 6, .assign (.tmp 76), _, _, _, none⟩ hS ?_
            refine wpAnyH_done (by kernel_rfl) ?_ _
            clear hS hB
            go_wp2
            go_roundw
            case rel =>
              have e1 : (S.take (k + 1)).length = k + 1 := by rw [List.length_take]; omega
              refine ⟨k + 1, a2, c2, hlt, by rw [e1], ?_⟩
              simp only [rowEn, e1, Hfl.out]
              exact hC.tail
            case measure => simp [outLen] <;> omega
    · obtain rfl : k = S.length := by omega
      have hnI : ¬ ((S.length : Int) < (ki.length : Int)) := by rw [← HSn.out]; omega
      go_wp2
      refine bodyPost_ret (results_tmp rfl _ _ _) rfl ?_
      rw [List.take_length] at hE
      exact ⟨_, rfl, (⟨ar, cr, [rowN ak ck ki, pt b2 (.cells #[.slice ao L.length c] 78)], rfl, hE⟩ : SoPost S l _ _)⟩
end Go.Proofs.YtljfkejkohmimaaDoor
namespace Go.Proofs.YtljfkejkohmimaaDoor
open Go.RowKit Go.SL

def REn (t : Tr) (L : List En) (ao : Option Addr) (c : Nat) (l : List HProp) (d : Nat) : Prop := ∀ (q : List (List UInt8)) (u : Tr), Tr.Wf d u → Tr.get? q t = some u → (entT d q u).length ≤ 1000000 → ∀ (L' : List HProp) (w : World), l <:+ L' → Ent L' w →
  Calls Tryd.prog 35 #[.agg #[.slice ao L.length c], .string ⟨(joinP q).toArray⟩] w (Ret fun v w' => ∃ a c' m, v = .slice a (entT d q u).length c' ∧ Ent (rowEn a c' (entT d q u) :: (m ++ L')) w')
def ReRel (q : List (List UInt8)) (d : Nat) (ks : List (List UInt8 × Tr)) (S : List En) (aS : Option Addr) (cS : Nat) (R : List HProp) (o i : Value) (wr : World) : Prop :=
  ∃ (k : Nat) (a : Option Addr) (c : Nat) (m : List HProp) (out : List En), k ≤ S.length ∧ i = .int .i64 k ∧ o = .slice a out.length c ∧ out = (ks.take k).flatMap (fun x => entOf q x :: entT d (q ++ [x.1]) x.2) ∧
    Ent (rowEn a c out :: rowEn aS cS S :: (m ++ R)) wr
set_option maxRecDepth 100000 in
set_option maxHeartbeats 8000000 in
attribute [-go_sem] Instr.loadAt in
theorem rEn_step {t : Tr} {L : List En} (hG : Good t L) (hL : L.length ≤ 1000) (hb : ∀ x ∈ L, x.path.length ≤ 1000000) {ao : Option Addr} {c : Nat} {l : List HProp} (hk : Knows l (reads (.slice ao L.length c) L.length (L.flatMap enC))) {d : Nat}
    (IH : ∀ e, d = e + 1 → REn t L ao c l e) : REn t L ao c l d := by
  intro q u hw hg hbig L' w hs hE
  obtain ⟨hqa, hq6⟩ := get_names hG.2.1 hg
  have HSo := SL.hid (fun (L2 : List HProp) (w : World) (hs : l <:+ L2) (h : Ent L2 w) => Sorted_any hL hb (joinP q) (sortT_perm hG.1 hG.2.1 hqa hq6 hg) (sortT_rising (q := q) (p := u) (Tr.wf_rising hw)) (hk.suf hs) h)
  have HSo2 := SL.hid (show ∀ (L2 : List HProp) (w : World), l <:+ L2 → Ent L2 w → Calls Tryd.prog 54 #[.agg #[.slice ao L.length c], .string ⟨(joinP q).toArray⟩] w (Ret (SoPost (u.kids.map (entOf q)) L2)) from HSo.out)
  obtain ⟨e, he, heT⟩ : ∃ e, (u.kids ≠ [] → d = e + 1) ∧ entT d q u = u.kids.flatMap (fun x => entOf q x :: entT e (q ++ [x.1]) x.2) := by
    cases d with
    | zero => exact ⟨0, fun h => absurd hw.1 h, by rw [entT_file hw.1, hw.1]; rfl⟩
    | succ e => exact ⟨e, fun _ => rfl, rfl⟩
  have HK := SL.hid (show ∀ (k : Nat) (h : k < u.kids.length), REn t L ao c l e ∧ Tr.Wf e u.kids[k].2 ∧ Tr.get? (q ++ [u.kids[k].1]) t = some u.kids[k].2 from fun k h => by
    have hd := he (List.ne_nil_of_length_pos (by omega))
    subst hd
    refine ⟨IH e rfl, (hw.2.2.2.2.2 _ (List.getElem_mem h)).2, ?_⟩
    rw [get_snoc hg, Tr.kid_iff (Tr.wf_rising hw)]
    exact List.getElem_mem h)
  rw [heT] at hbig ⊢
  have Hs := SL.hid hs
  have hk6 := (Tr.wf_size hw).2
  clear HSo IH hw hg heT he hqa hq6 hs hk
  generalize u.kids = ks at *
  generalize hS : ks.map (entOf q) = S at *
  have HS := SL.hid hS
  have hsl : S.length = ks.length := by rw [← hS, List.length_map]
  have HSl := SL.hid hsl
  have hS6 : S.length ≤ 6 := by omega
  clear hS hsl
  have Hbig := SL.hid hbig
  clear hbig
  generalize hj : joinP q = jq at *
  clear hj
  go_enter Tryd.func35, Tryd.ntmps35
  go_wp2_with (first
    | go_skip
    | ((with_reducible (show Go.wpList _ _ _ (Go.Oper.mk _ (.box _ _) _ _ _ _ :: _) _ _)); refine wpl_box hE rfl rfl rfl ?_; clear hE; intro b2 w hE; simp only [Act.eval, Act.put, List.setIfInBounds_toArray, List.set_cons_zero, List.set_cons_succ, getD_lit, List.getD_cons_succ, List.getD_cons_zero, Value.cells] at hE)
    | ((with_reducible (show Go.wpList _ _ _ (Go.Oper.mk _ (.load 78 _) _ _ _ _ :: _) _ _)); (first | (refine wpl_loadW hE 0 rfl rfl rfl rfl Tryd.isAgg78 Tryd.sizeOf78 rfl ?_) | (refine wpl_loadW hE 1 rfl rfl rfl rfl Tryd.isAgg78 Tryd.sizeOf78 rfl ?_) | (refine wpl_loadW hE 2 rfl rfl rfl rfl Tryd.isAgg78 Tryd.sizeOf78 rfl ?_) | (refine wpl_loadW hE 3 rfl rfl rfl rfl Tryd.isAgg78 Tryd.sizeOf78 rfl ?_) | (refine wpl_loadW hE 4 rfl rfl rfl rfl Tryd.isAgg78 Tryd.sizeOf78 rfl ?_) | (refine wpl_loadW hE 5 rfl rfl rfl rfl Tryd.isAgg78 Tryd.sizeOf78 rfl ?_) | (refine wpl_loadW hE 6 rfl rfl rfl rfl Tryd.isAgg78 Tryd.sizeOf78 rfl ?_) | (refine wpl_loadW hE 7 rfl rfl rfl rfl Tryd.isAgg78 Tryd.sizeOf78 rfl ?_)))
    | (go_at_call 54; refine (HSo2.out _ _ (Hs.out.trans (List.suffix_cons _ _)) hE).mono ?_; clear hE; rintro e w3 ⟨v, rfl, aS, cS, mS, rfl, hE⟩))
  go_loopw [6, 7] (fun o i wr => ReRel q e ks S aS cS (pt b2 (.cells #[.slice ao L.length c] 78) :: L') o i wr) (fun _ i _ => S.length - (intOf i).toNat)
  case atStart => exact ⟨0, none, 0, mS, [], Nat.zero_le _, rfl, rfl, rfl, hE.nil _ _⟩
  case round =>
    clear hE
    obtain ⟨k, a, ca, mm, out, hkn, rfl, rfl, hout, hE⟩ := hrel
    by_cases hlt : k < S.length
    · have hlk : k < ks.length := by rw [← HSl.out]; exact hlt
      obtain ⟨gS, rfl, _, _⟩ := hE.rowIs 1 rfl (by omega)
      have hSk : S[k] = entOf q ks[k] := by simp only [← HS.out, List.getElem_map]
      have f1 := SL.hid (show ∀ (A : HProp) (L2 : List HProp) (w : World), Ent (A :: rowEn (some ⟨gS, 0, none⟩) cS S :: L2) w → (Instr.loadAt 53 (.pointer (some ⟨gS, k * 3, none⟩))).run Tryd.prog w = .ok (.agg #[.string ⟨S[k].path.toArray⟩, .bool S[k].dir, .string ⟨S[k].data.toArray⟩]) w from fun A L2 w h => by
        have := (load_en (reads_row h 1 rfl) hlt).1
        rwa [Nat.zero_add] at this)
      have g1 := SL.hid (show ∀ (L2 : List HProp) (w : World), Ent (rowEn (some ⟨gS, 0, none⟩) cS S :: L2) w → (Instr.loadAt 9 (.pointer (some ⟨gS, k * 3, none⟩))).run Tryd.prog w = .ok (.string ⟨S[k].path.toArray⟩) w from fun L2 w h => by
        have := (load_en (reads_row h 0 rfl) hlt).2.1
        rwa [Nat.zero_add] at this)
      have f2 := SL.hid (show ∀ (w : World), Ent (pt b2 (.cells #[.slice ao L.length c] 78) :: L') w → (Instr.loadAt 78 (.pointer (some ⟨b2, 0, none⟩))).run Tryd.prog w = .ok (.agg #[.slice ao L.length c]) w from fun w h => atWm (vs := [.slice ao L.length c]) h List.mem_cons_self Tryd.isAgg78 Tryd.sizeOf78 rfl)
      obtain ⟨hIH, hwk, hgk⟩ := HK.out k hlk
      have htake := List.take_succ_eq_append_getElem hlk
      have hlen2 : out.length + (entOf q ks[k] :: entT e (q ++ [ks[k].1]) ks[k].2).length ≤ 1000000 := by
        have e0 : ks = ks.take k ++ ks[k] :: ks.drop (k + 1) := by rw [← List.drop_eq_getElem_cons hlk, List.take_append_drop]
        have h2 : ((ks.take k).flatMap (fun x => entOf q x :: entT e (q ++ [x.1]) x.2)).length + (entOf q ks[k] :: entT e (q ++ [ks[k].1]) ks[k].2).length ≤ (ks.flatMap (fun x => entOf q x :: entT e (q ++ [x.1]) x.2)).length := by
          conv => rhs; rw [e0, List.flatMap_append, List.flatMap_cons, List.length_append, List.length_append]
          omega
        have := Hbig.out
        rw [hout]
        omega
      have Hout := SL.hid (show (ks.take (k + 1)).flatMap (fun x => entOf q x :: entT e (q ++ [x.1]) x.2) = out ++ (entOf q ks[k] :: entT e (q ++ [ks[k].1]) ks[k].2) from by
        rw [htake, List.flatMap_append, hout, List.flatMap_singleton])
      rw [List.length_cons] at hlen2
      have HI := SL.hid (fun (L2 : List HProp) (w : World) (hs : l <:+ L2) (h : Ent L2 w) => hIH (q ++ [ks[k].1]) ks[k].2 hwk hgk (by omega) L2 w hs h)
      have hpa : S[k].path = joinP (q ++ [ks[k].1]) := by rw [hSk]; rfl
      rw [← hpa] at HI
      rw [← hSk] at Hout
      clear htake hout hIH hwk hgk hSk hpa
      generalize entT e (q ++ [ks[k].1]) ks[k].2 = sub at *
      generalize S[k] = y at *
      obtain ⟨xp, xd, xb⟩ := y
      simp only at f1 g1 HI
      have Hlen2 := SL.hid hlen2
      clear hlen2
      go_wp2_with (first
        | go_skip
        | ((with_reducible (show Go.wpList _ _ _ (Go.Oper.mk _ (.load 53 _) _ _ _ _ :: _) _ _)); refine wpl_run rfl (w' := wr) (v := .agg #[.string ⟨xp.toArray⟩, .bool xd, .string ⟨xb.toArray⟩]) (by simp only [execOp, Act.eval]; simp [f1.out _ _ _ hE]) ?_)
        | ((with_reducible (show Go.wpList _ _ _ (Go.Oper.mk _ (.buildSlice _ _ _) _ _ _ _ :: _) _ _)); refine wpl_build1 hE rfl rfl (xs := enC ⟨xp, xd, xb⟩) rfl Tryd.underlying22 zs_en Tryd.sizeOf53 (by decide) (by decide) rfl ?_; clear hE; intro b9 w3 hE)
        | ((with_reducible (show Go.wpList _ _ _ (Go.Oper.mk _ (.call { callee := .builtin .append, args := _, argTypes := _ }) _ _ _ _ :: _) _ _)); refine wpl_appendG hE 1 rfl rfl rfl rfl rfl Tryd.underlying22 info_en (by decide) (m := 1) (news := enC ⟨xp, xd, xb⟩) (reads_pt hE 0 rfl (off := 0) (fun j u hu => by rw [Nat.zero_add, List.getElem?_toArray]; exact hu)) rfl (enC_one _) (by have := Hlen2.out; omega) (by have := Hlen2.out; omega) ?_; clear hE; intro ao' c' w6 hE; simp only [List.set_cons_zero, List.set_cons_succ] at hE; replace hE := hE.tail))
      refine wp_region_held_drew (S := (fun w' => ((Instr.loadAt 78 (.pointer (some ⟨b2, 0, none⟩))).run Tryd.prog w' = .ok (.agg #[.slice ao L.length c]) w') ∧ ((Instr.loadAt 9 (.pointer (some ⟨gS, k * 3, none⟩))).run Tryd.prog w' = .ok (.string ⟨xp.toArray⟩) w'))) (by kernel_rfl) ⟨(f2.out _ (by first | exact (hE.drew.tail.tail).drop | exact ((hE.drew.tail.tail).drop).tail.drop)), (g1.out _ _ (by first | exact hE.drew.tail | exact (hE.drew.tail.tail).drop))⟩ (fun hS => ?_)
      refine tV 0 ⟨some 24, .move (.tmp 6), _, _, _, none⟩ hS ?_
      refine tL 1 ⟨some 25, .load 78 (.tmp 2), _, _, _, none⟩ hS ?_
      refine tV 2 ⟨some 26, .move (.tmp 5), _, _, _, none⟩ hS ?_
      refine tV 3 ⟨some 27, .move (.tmp 7), _, _, _, none⟩ hS ?_
      refine tV 4 ⟨some 28, .indexAddr 22 (.tmp 26) (.tmp 27), _, _, _, none⟩ hS ?_
      refine tV 5 ⟨some 29, .fieldAddr 53 (.tmp 28) 0, _, _, _, none⟩ hS ?_
      refine tL 6 ⟨some 30, .load 9 (.tmp 29), _, _, _, none⟩ hS ?_
      refine wpAnyH_ready (rs := [7]) (by kernel_rfl) (by simp) ?_
      refine (AllReadyH.cons (o := ⟨some 31, .call { callee := .value (.func 35), args := #[.tmp 25, .tmp 30], argTypes := #[78, 9] }, _, _, _, none⟩) rfl (fun K hK => ?_) AllReadyH.nil)
      (go_simp; have H := HI.out _ _ ((Hs.out.trans (List.suffix_cons _ _)).trans ((List.suffix_append mm _).trans ((List.suffix_cons _ _).trans (List.suffix_cons _ _)))) hE.drew; refine H.mono ?_; clear H; rintro e w4 ⟨v, rfl, a5, c5, m5, rfl, hA0⟩; have hA := Ent.swap (a := rowEn a5 c5 sub :: m5) (b := [_]) hA0; simp only [List.cons_append, List.nil_append] at hA)
      refine hK.out _ _ ⟨(f2.out _ (by first | exact (hA.tail.tail).drop | exact ((hA.tail.tail).drop).tail.drop)), (g1.out _ _ (by first | exact hA.tail | exact (hA.tail.tail).drop))⟩ (fun hS => ?_)
      clear hK K
      try simp only [Act.put, sb, s0, sz]
      refine wpAnyH_ready (rs := [8]) (by kernel_rfl) (by simp) ?_
      refine (AllReadyH.cons (o := ⟨some 32, .call { callee := .builtin .append, args := #[.tmp 24, .tmp 31], argTypes := #[22, 22] }, _, _, _, none⟩) rfl (fun K hK => ?_) AllReadyH.nil)
      (refine step_appendG hA 0 rfl rfl (by rfl) (by rfl) (by rfl) Tryd.underlying22 info_en (by decide) (m := sub.length) (news := sub.flatMap enC) (reads_row hA 1 rfl) (enC_flat_len sub) (flat_one sub) (by have := Hlen2.out; omega) (by have := Hlen2.out; omega) ?_; intro a6 c6 w7 hC; simp only [List.set_cons_zero, List.set_cons_succ] at hC)
      refine hK.out _ _ ⟨(f2.out _ (by first | exact (hC.tail.tail).drop | exact ((hC.tail.tail).drop).tail.drop)), (g1.out _ _ (by first | exact hC.tail | exact (hC.tail.tail).drop))⟩ (fun hS => ?_)
      clear hK K
      try simp only [Act.put, sb, s0, sz]
      refine tV 9 ⟨some 6, .assign (.tmp 32), _, _, _, none⟩ hS ?_
      refine wpAnyH_done (by kernel_rfl) ?_ _
      clear hA hA0 hE hS
      go_wp2
      go_roundw
      case rel =>
        have e1 : (out ++ (⟨xp, xd, xb⟩ : En) :: sub).length = out.length + 1 + sub.length := by simp only [List.length_append, List.length_cons]; omega
        have e2 : (out ++ (⟨xp, xd, xb⟩ : En) :: sub).flatMap enC = out.flatMap enC ++ enC ⟨xp, xd, xb⟩ ++ sub.flatMap enC := by simp [List.append_assoc]
        refine ⟨k + 1, a6, c6, rowEn a5 c5 sub :: (m5 ++ mm), out ++ (⟨xp, xd, xb⟩ : En) :: sub, hlt, by first | rfl | simp, by rw [e1], Hout.out.symm, ?_⟩
        simp only [rowEn, e1, e2, List.cons_append, List.append_assoc] at hC ⊢
        exact (Ent.swap (a := _ :: _ :: m5) (b := [_]) hC).front 1 rfl
      case measure => simp [intOf] <;> omega
    · obtain rfl : k = S.length := by omega
      have Ho := SL.hid (show out = ks.flatMap (fun x => entOf q x :: entT e (q ++ [x.1]) x.2) from by rw [hout, HSl.out, List.take_length])
      clear hout
      go_wp2
      refine bodyPost_ret (results_tmp rfl _ _ _) rfl ?_
      rw [← Ho.out]
      refine ⟨_, rfl, a, ca, rowEn aS cS S :: (mm ++ [pt b2 (.cells #[.slice ao L.length c] 78)]), rfl, ?_⟩
      simp only [List.cons_append, List.append_assoc, List.nil_append]
      exact hE
theorem rEn_all {t : Tr} {L : List En} (hG : Good t L) (hL : L.length ≤ 1000) (hb : ∀ x ∈ L, x.path.length ≤ 1000000) {ao : Option Addr} {c : Nat} {l : List HProp} (hk : Knows l (reads (.slice ao L.length c) L.length (L.flatMap enC))) : ∀ d, REn t L ao c l d
  | 0 => rEn_step hG hL hb hk (fun e h => absurd h (by omega))
  | d + 1 => rEn_step hG hL hb hk (fun e h => by cases h; exact rEn_all hG hL hb hk d)
theorem rEntries_any {t : Tr} {L : List En} (hG : Good t L) (hL : L.length ≤ 1000) (hb : ∀ x ∈ L, x.path.length ≤ 1000000) {ao : Option Addr} {c : Nat} {l : List HProp} (hk : Knows l (reads (.slice ao L.length c) L.length (L.flatMap enC))) {L' : List HProp} {w : World} (hs : l <:+ L') (hE : Ent L' w) :
    Calls Tryd.prog 35 #[.agg #[.slice ao L.length c], .string ⟨#[]⟩] w (Ret fun v w' => ∃ a c' m, v = .slice a (entT 6 [] t).length c' ∧ Ent (rowEn a c' (entT 6 [] t) :: (m ++ L')) w') :=
  rEn_all hG hL hb hk 6 [] t hG.2.1 rfl (by rw [(all_perm hG).length_eq]; omega) L' w hs hE
end Go.Proofs.YtljfkejkohmimaaDoor
namespace Go.Proofs.YtljfkejkohmimaaDoor
open Go.RowKit Go.SL

/-- what stands at a path behind the changes -/
def rSd (es : List En) (l : List Ch) (k : List UInt8) : Sd := match l.find? (fun c => c.path == k) with
  | some c => c.now
  | none => rOf es k
def rNew (es : List En) (l : List Ch) (k : List UInt8) : Option En := if (rSd es l k).there = true then some ⟨k, (rSd es l k).dir, (rSd es l k).data⟩ else none
def rOut (es : List En) (l : List Ch) : List En := (sortK (es.map En.path ++ l.map Ch.path)).filterMap (rNew es l)
def rFit (es : List En) (l : List Ch) : Bool := l.all fun c => rOf es c.path == c.was
noncomputable def rApR (es : List En) (l : List Ch) : Int × List En := if mayB l = true then (if rFit es l = true then (if (buildT (rOut es l)).1 = 0 then (0, entT 6 [] (buildT (rOut es l)).2) else ((buildT (rOut es l)).1, [])) else (10, [])) else (3, [])
def RaPost (r : Int × List En) (l : List HProp) (v : Value) (w' : World) : Prop := ∃ (ao : Option Addr) (c : Nat) (m : List HProp), v = .tuple #[.slice ao r.2.length c, .int .i64 r.1] ∧ Ent (rowEn ao c r.2 :: (m ++ l)) w'
theorem rOut_ok {es : List En} {l : List Ch} (he : ∀ x ∈ es, x.path.length ≤ 1000000 ∧ x.data.length ≤ 1000000) (hl : ∀ x ∈ l, x.path.length ≤ 1000000 ∧ x.now.data.length ≤ 1000000) : ∀ x ∈ rOut es l, x.path.length ≤ 1000000 ∧ x.data.length ≤ 1000000 := by
  intro x hx
  obtain ⟨k, hk, h⟩ := List.mem_filterMap.1 hx
  unfold rNew at h
  split at h
  · cases h
    refine ⟨?_, ?_⟩
    · rw [sortK_mem, List.mem_append] at hk
      rcases hk with h1 | h1
      · obtain ⟨z, hz, rfl⟩ := List.mem_map.1 h1
        exact (he z hz).1
      · obtain ⟨z, hz, rfl⟩ := List.mem_map.1 h1
        exact (hl z hz).1
    · unfold rSd
      split
      · next c hc => exact (hl c (List.mem_of_find?_eq_some hc)).2
      · unfold rOf
        split
        · next z hz => exact (he z (List.mem_of_find?_eq_some hz)).2
        · split
          · simp
          · simp [Sd.no]
  · cases h
def RfRel (es : List En) (cs : List Ch) (l : List HProp) (i : Value) (wr : World) : Prop :=
  ∃ k : Nat, k ≤ cs.length ∧ i = .int .i64 k ∧ (∀ x ∈ cs.take k, rOf es x.path = x.was) ∧ Ent l wr
def RaRel (all : List (List UInt8)) (F : List UInt8 → Option En) (LL : List HProp) (o i : Value) (wr : World) : Prop :=
  ∃ (k : Nat) (ao : Option Addr) (c : Nat) (out : List En), k ≤ all.length ∧ i = .int .i64 k ∧ out = (all.take k).filterMap F ∧ o = .slice ao out.length c ∧ Ent (rowEn ao c out :: LL) wr
set_option maxRecDepth 100000 in
set_option maxHeartbeats 8000000 in
attribute [-go_sem] Instr.loadAt Go.run_equalIn_agg in
theorem rApply_any {es : List En} {cs : List Ch} (hne : es.length ≤ 500) (hnc : cs.length ≤ 500) (hbe : ∀ x ∈ es, x.path.length ≤ 100000 ∧ x.data.length ≤ 1000000) (hbc : ∀ x ∈ cs, x.path.length ≤ 100000 ∧ x.now.data.length ≤ 1000000) {ae ac : Option Addr} {ce cc : Nat} {l : List HProp} {w : World} (hke : Knows l (reads (.slice ae es.length ce) es.length (es.flatMap enC))) (hkc : Knows l (reads (.slice ac cs.length cc) cs.length (cs.flatMap chC))) (hE : Ent l w) :
    Calls Tryd.prog 10 #[.slice ae es.length ce, .slice ac cs.length cc] w (Ret (RaPost (rApR es cs) l)) := by
  have HM := SL.hid (fun (w : World) (h : Ent l w) => rMay_any (by omega) (fun x hx => (hbc x hx).1) hkc h)
  have hok := rOut_ok (es := es) (l := cs) (fun x hx => ⟨by have := (hbe x hx).1; omega, (hbe x hx).2⟩) (fun x hx => ⟨by have := (hbc x hx).1; omega, (hbc x hx).2⟩)
  unfold rApR
  unfold MPost at HM
  generalize mayB cs = mb at *
  have A1 := SL.hid True.intro
  cases mb with
  | false =>
    simp only [Bool.false_eq_true, if_false]
    go_enter Tryd.func10, Tryd.ntmps10
    go_wp2_with (first
      | go_skip
      | (go_at_call 28; refine (HM.out _ hE).mono ?_; clear hE; rintro e w2 ⟨v, h1, h2, hE⟩; cases h1; cases h2))
    refine bodyPost_ret (results_tmp2 rfl _ _ _) rfl ?_
    exact ⟨_, rfl, none, 0, [], rfl, hE.nil _ _⟩
  | true =>
  simp only [if_true]
  have HOf := SL.hid (fun (p : List UInt8) (L : List HProp) (w : World) hk (h : Ent L w) => rOf_any (es := es) (p := p) (ao := ae) (c := ce) (by omega) hk h)
  have Hfit := SL.hid (show (∀ x ∈ cs, rOf es x.path = x.was) → rFit es cs = true from fun h => List.all_eq_true.2 fun x hx => by rw [h x hx]; exact beq_self_eq_true _)
  have Hmis := SL.hid (show ∀ x ∈ cs, rOf es x.path ≠ x.was → rFit es cs = false from fun x hx h => List.all_eq_false.2 ⟨x, hx, by rw [beq_eq_false_iff_ne.2 h]; decide⟩)
  obtain ⟨XR, hXR⟩ : ∃ XR : Int × List En, (if rFit es cs = true then (if (buildT (rOut es cs)).1 = 0 then (0, entT 6 [] (buildT (rOut es cs)).2) else ((buildT (rOut es cs)).1, [])) else (10, [])) = XR := ⟨_, rfl⟩
  have HXR := SL.hid hXR
  rw [hXR]
  clear hXR
  go_enter Tryd.func10, Tryd.ntmps10
  go_wp2_with (first
    | go_skip
    | (go_at_call 28; refine (HM.out _ hE).mono ?_; clear hE; rintro e w2 ⟨v, h1, h2, hE⟩; cases h1; cases h2))
  clear HM
  have HKE := SL.hid hke
  have HKC := SL.hid hkc
  have Hbc := SL.hid hbc
  have Hbe := SL.hid hbe
  have Hok := SL.hid hok
  clear hke hkc hbc hbe hok
  go_loopw [6] (fun i wr => RfRel es cs l i wr) (fun i _ => cs.length - (intOf i).toNat)
  case atStart => exact ⟨0, Nat.zero_le _, rfl, by simp, hE⟩
  case round =>
    clear hE
    obtain ⟨k, hkl, rfl, hpre, hE⟩ := hrel
    by_cases hlt : k < cs.length
    · obtain ⟨b, off, rfl, hz⟩ := ch_at (HKC.out _ hE) hlt
      clear hz
      have f0 := SL.hid (show ∀ w, Ent l w → _ from fun w h => load_rc (HKC.out w h) hlt)
      have Hst := SL.hid (show rOf es cs[k].path = cs[k].was → ∀ x ∈ cs.take (k + 1), rOf es x.path = x.was from fun h x hx => by
        rw [List.take_succ_eq_append_getElem hlt] at hx
        rcases List.mem_append.1 hx with h1 | h1
        · exact hpre x h1
        · rw [List.mem_singleton.1 h1]; exact h)
      have Hms := SL.hid (Hmis.out cs[k] (List.getElem_mem hlt))
      clear hpre
      generalize cs[k] = x at *
      obtain ⟨xp, ⟨qt, qd, qb⟩, ⟨ut, ud, ub⟩⟩ := x
      simp only [chC, sdC] at f0
      simp only at Hst Hms
      have HA := SL.hid (HOf.out xp)
      have hEq := fun w => eqSr 9998 (rOf es xp) ⟨qt, qd, qb⟩ w
      have Hq := SL.hid (show (rOf es xp == ⟨qt, qd, qb⟩) = true ↔ rOf es xp = ⟨qt, qd, qb⟩ from beq_iff_eq)
      simp only [sdV] at HA
      simp only [sdC] at hEq
      generalize (rOf es xp == ⟨qt, qd, qb⟩) = eq at *
      generalize rOf es xp = s at *
      obtain ⟨rt, rd, rb⟩ := s
      simp only at HA hEq
      cases eq with
      | false =>
        have Hno := SL.hid (Hms.out (fun h => by have := Hq.out.2 h; cases this))
        go_wp2
        have hO := hE.drew
        refine wp_region_held_drew (S := (fun w' => ((Instr.loadAt 9 (.pointer (some ⟨b, off + k * 7, none⟩))).run Tryd.prog w' = .ok (.string ⟨xp.toArray⟩) w') ∧ ((Instr.loadAt 49 (.pointer (some ⟨b, off + k * 7 + 1, none⟩))).run Tryd.prog w' = .ok (.agg #[.bool qt, .bool qd, .string ⟨qb.toArray⟩]) w'))) (by kernel_rfl) ⟨(f0.out _ (hO.suf sfx)).2.1, (f0.out _ (hO.suf sfx)).2.2.1⟩ (fun hS => ?_)
        refine tV 0 ⟨some 23, .move (.tmp 0), _, _, _, none⟩ hS ?_
        refine tV 1 ⟨some 24, .move (.tmp 1), _, _, _, none⟩ hS ?_
        refine tV 2 ⟨some 25, .move (.tmp 6), _, _, _, none⟩ hS ?_
        refine tV 3 ⟨some 26, .indexAddr 23 (.tmp 24) (.tmp 25), _, _, _, none⟩ hS ?_
        refine tV 4 ⟨some 27, .fieldAddr 51 (.tmp 26) 0, _, _, _, none⟩ hS ?_
        refine tL 5 ⟨some 28, .load 9 (.tmp 27), _, _, _, none⟩ hS ?_
        refine tV 7 ⟨some 30, .move (.tmp 1), _, _, _, none⟩ hS ?_
        refine tV 8 ⟨some 31, .move (.tmp 6), _, _, _, none⟩ hS ?_
        refine tV 9 ⟨some 32, .indexAddr 23 (.tmp 30) (.tmp 31), _, _, _, none⟩ hS ?_
        refine tV 10 ⟨some 33, .fieldAddr 51 (.tmp 32) 1, _, _, _, none⟩ hS ?_
        refine tL 11 ⟨some 34, .load 49 (.tmp 33), _, _, _, none⟩ hS ?_
        refine wpAnyH_ready (rs := [6]) (by kernel_rfl) (by simp) ?_
        refine (AllReadyH.cons (o := ⟨some 29, .call { callee := .value (.func 29), args := #[.tmp 23, .tmp 28], argTypes := #[22, 9] }, _, _, _, none⟩) rfl (fun K hK => ?_) AllReadyH.nil)
        (go_simp; refine (HA.out _ _ (HKE.out.suf sfx) hO).mono ?_; clear hO; rintro e w5 ⟨v, h1, h2, hO⟩; cases h1; cases h2)
        refine hK.out _ _ ⟨(f0.out _ (hO.suf sfx)).2.1, (f0.out _ (hO.suf sfx)).2.2.1⟩ (fun hS => ?_)
        clear hK K
        try simp only [Act.put, sb, s0, sz]
        refine tV 12 ⟨some 35, .binOp .neq 49 (.tmp 29) (.tmp 34) 49, _, _, _, none⟩ hS ?_
        refine wpAnyH_done (by kernel_rfl) ?_ _
        all_goals
          clear hS hE
          have hE := hO
          clear hO
          go_wp2
          refine bodyPost_ret (results_tmp2 rfl _ _ _) rfl ?_
          refine ⟨_, rfl, ?_⟩
          rw [← HXR.out, Hno.out]
          exact ⟨none, 0, [], rfl, hE.nil _ _⟩
      | true =>
        have Hyes := SL.hid (Hst.out (Hq.out.1 rfl))
        go_wp2
        have hO := hE.drew
        refine wp_region_held_drew (S := (fun w' => ((Instr.loadAt 9 (.pointer (some ⟨b, off + k * 7, none⟩))).run Tryd.prog w' = .ok (.string ⟨xp.toArray⟩) w') ∧ ((Instr.loadAt 49 (.pointer (some ⟨b, off + k * 7 + 1, none⟩))).run Tryd.prog w' = .ok (.agg #[.bool qt, .bool qd, .string ⟨qb.toArray⟩]) w'))) (by kernel_rfl) ⟨(f0.out _ (hO.suf sfx)).2.1, (f0.out _ (hO.suf sfx)).2.2.1⟩ (fun hS => ?_)
        refine tV 0 ⟨some 23, .move (.tmp 0), _, _, _, none⟩ hS ?_
        refine tV 1 ⟨some 24, .move (.tmp 1), _, _, _, none⟩ hS ?_
        refine tV 2 ⟨some 25, .move (.tmp 6), _, _, _, none⟩ hS ?_
        refine tV 3 ⟨some 26, .indexAddr 23 (.tmp 24) (.tmp 25), _, _, _, none⟩ hS ?_
        refine tV 4 ⟨some 27, .fieldAddr 51 (.tmp 26) 0, _, _, _, none⟩ hS ?_
        refine tL 5 ⟨some 28, .load 9 (.tmp 27), _, _, _, none⟩ hS ?_
        refine tV 7 ⟨some 30, .move (.tmp 1), _, _, _, none⟩ hS ?_
        refine tV 8 ⟨some 31, .move (.tmp 6), _, _, _, none⟩ hS ?_
        refine tV 9 ⟨some 32, .indexAddr 23 (.tmp 30) (.tmp 31), _, _, _, none⟩ hS ?_
        refine tV 10 ⟨some 33, .fieldAddr 51 (.tmp 32) 1, _, _, _, none⟩ hS ?_
        refine tL 11 ⟨some 34, .load 49 (.tmp 33), _, _, _, none⟩ hS ?_
        refine wpAnyH_ready (rs := [6]) (by kernel_rfl) (by simp) ?_
        refine (AllReadyH.cons (o := ⟨some 29, .call { callee := .value (.func 29), args := #[.tmp 23, .tmp 28], argTypes := #[22, 9] }, _, _, _, none⟩) rfl (fun K hK => ?_) AllReadyH.nil)
        (go_simp; refine (HA.out _ _ (HKE.out.suf sfx) hO).mono ?_; clear hO; rintro e w5 ⟨v, h1, h2, hO⟩; cases h1; cases h2)
        refine hK.out _ _ ⟨(f0.out _ (hO.suf sfx)).2.1, (f0.out _ (hO.suf sfx)).2.2.1⟩ (fun hS => ?_)
        clear hK K
        try simp only [Act.put, sb, s0, sz]
        refine tV 12 ⟨some 35, .binOp .neq 49 (.tmp 29) (.tmp 34) 49, _, _, _, none⟩ hS ?_
        refine wpAnyH_done (by kernel_rfl) ?_ _
        all_goals
          clear hS hE
          have hE := hO
          clear hO
          go_wp2
          go_roundw
          case rel => exact ⟨k + 1, hlt, by first | rfl | simp, Hyes.out, hE⟩
          case measure => simp [intOf] <;> omega
    · obtain rfl : k = cs.length := by omega
      rw [List.take_length] at hpre
      have HFit := SL.hid (Hfit.out hpre)
      clear hpre Hfit Hmis hkl hlt
      have H1 := SL.hid (fun (w : World) (h : Ent l w) => paths_any (by omega) HKE.out h)
      have H2 := SL.hid (fun (L : List HProp) (w : World) (hs : l <:+ L) (h : Ent L w) => chg2_any (by omega) (HKC.out.suf hs) h)
      have H3 := SL.hid (fun (L : List HProp) (w : World) (a1 b1 : Option Addr) (c1 d1 : Nat) h1 h2 (h : Ent L w) => sorted_any (xs := es.map En.path) (ys := cs.map Ch.path) (ao := a1) (bo := b1) (c := c1) (d := d1) (by simp; omega) (by
        intro x hx
        rcases List.mem_append.1 hx with hx | hx
        · obtain ⟨y, hy, rfl⟩ := List.mem_map.1 hx
          exact (Hbe.out y hy).1
        · obtain ⟨y, hy, rfl⟩ := List.mem_map.1 hx
          exact (Hbc.out y hy).1) h1 h2 h)
      have HFi := SL.hid (fun (p : List UInt8) (L : List HProp) (w : World) hk (h : Ent L w) => rfind_any (es := cs) (p := p) (ao := ac) (c := cc) (by omega) hk h)
      have hal : (sortK (es.map En.path ++ cs.map Ch.path)).length ≤ 1000 := by
        have := sortK_len (es.map En.path ++ cs.map Ch.path)
        simp at this
        omega
      unfold rOut at HXR Hok
      generalize sortK (es.map En.path ++ cs.map Ch.path) = all at *
      obtain ⟨pas, has⟩ : ∃ pas, es.map En.path = pas := ⟨_, rfl⟩
      obtain ⟨pbs, hbs⟩ : ∃ pbs, cs.map Ch.path = pbs := ⟨_, rfl⟩
      rw [has] at H1 H3
      rw [hbs] at H2 H3
      clear has hbs Hbe Hbc
      obtain ⟨F, hF⟩ : ∃ F : List UInt8 → Option En, rNew es cs = F := ⟨_, rfl⟩
      have HF := SL.hid hF
      rw [hF] at HXR Hok
      clear hF
      go_wp2_with (first
        | go_skip
        | (go_at_call 31; refine (H1.out _ hE).mono ?_; clear hE; rintro e w2 ⟨v, h1, a1, c1, h2, hE⟩; cases h1; cases h2)
        | (go_at_call 32; refine (H2.out _ _ (List.suffix_cons _ _) hE).mono ?_; clear hE; rintro e w2 ⟨v, h1, a2, c2, h2, hE⟩; cases h1; cases h2)
        | (go_at_call 30; refine (H3.out _ _ _ _ _ _ (fun w h => reads_row h 1 rfl) (fun w h => reads_row h 0 rfl) hE).mono ?_; clear hE; rintro e w2 ⟨v, h1, a3, c3, m3, h2, hE⟩; cases h1; cases h2))
      obtain ⟨LL, hEL, hall, hl⟩ : ∃ LL, Ent LL w2 ∧ Knows LL (reads (.slice a3 all.length c3) all.length (all.map strv)) ∧ ∃ m, LL = m ++ l := ⟨_, hE, fun w h => reads_row h 0 rfl, rowS a3 c3 all :: (m3 ++ [rowS a2 c2 pbs, rowS a1 c1 pas]), by simp⟩
      clear hE
      have hE := hEL
      clear hEL
      have HKA := SL.hid (show Knows LL _ from by obtain ⟨m, rfl⟩ := hl; exact HKE.out.append)
      have HKB := SL.hid (show Knows LL _ from by obtain ⟨m, rfl⟩ := hl; exact HKC.out.append)
      clear HKE HKC H1 H2 H3
      go_loopw [8, 9] (fun o i wr => RaRel all F LL o i wr) (fun _ i _ => all.length - (intOf i).toNat)
      case atStart => exact ⟨0, none, 0, [], Nat.zero_le _, rfl, rfl, rfl, hE.nil _ _⟩
      case round =>
        clear hE
        obtain ⟨k, ao, c, out, hkl, rfl, hout, rfl, hE⟩ := hrel
        have hol : out.length ≤ 1000 := by
          have := fm_len (all := all) (k := k) F
          rw [hout]
          omega
        by_cases hlt : k < all.length
        · obtain ⟨ba, oa, rfl, hz⟩ := str_at2 (hall _ hE.tail) hlt
          clear hz
          have f2 := SL.hid (show ∀ w, Ent LL w → w.cell? ⟨ba, oa + k, none⟩ = some (strv all[k]) from fun w h => by
            obtain ⟨b', o', e, h⟩ := str_at2 (hall w h) hlt
            cases e
            exact h)
          have Hst := SL.hid (fm_step hlt F)
          rw [← hout] at Hst
          clear hout
          simp only [strv] at f2
          generalize all[k] = key at *
          have HA := SL.hid (HOf.out key)
          have HB := SL.hid (HFi.out key)
          have HFk := SL.hid (show F key = rNew es cs key by rw [← HF.out])
          have hy := atCell (t := 9) (P := Tryd.prog) (f2.out _ hE.tail) (by simp [go_sem])
          have A2 := SL.hid True.intro
          simp only [sdV] at HA
          rcases findI_cases cs key with ⟨hfb, hib⟩ | ⟨ib, hlb, hfb, hib⟩
          · rw [hib] at HB
            simp only [rNew, rSd, hfb] at HFk
            clear hfb hib
            generalize rOf es key = s at *
            obtain ⟨rt, rd, rb⟩ := s
            simp only at HA HFk
            cases rt with
            | false =>
              simp only [Bool.false_eq_true, if_false] at HFk
              go_wp2_with (first
              | go_skip
              | ((with_reducible (show Go.wpList _ _ _ (Go.Oper.mk _ (.alloc _) _ _ _ _ :: _) _ _)); clear hy; refine wpl_alloc hE rfl rfl (by simp [go_sem]; rfl) ?_; clear hE; intro b8 w hE; simp only [Act.eval, Act.put, List.setIfInBounds_toArray, List.set_cons_zero, List.set_cons_succ, getD_lit, List.getD_cons_succ, List.getD_cons_zero, Value.cells] at hE)
              | (clear A2; (with_reducible (show Go.wpList _ _ _ (Go.Oper.mk _ (.store 49 _ _) _ _ _ _ :: _) _ _)); refine wpl_storeW hE 0 rfl rfl rfl (xs := [.bool false, .bool rd, .string ⟨rb.toArray⟩]) rfl rfl Tryd.sizeOf49 rfl (by simp [Value.oneCell']) rfl ?_; clear hE; intro w8 hE; simp only [List.set_cons_zero] at hE; have hy := atCell (t := 9) (P := Tryd.prog) (f2.out _ hE.tail.tail) (by simp [go_sem]))
              | (go_at_call 29; refine (HA.out _ _ (HKA.out.suf sfx) hE).mono ?_; clear hE; rintro e w5 ⟨v, h1, h2, hE⟩; cases h1; cases h2)
              | (go_at_call 33; clear hy; refine (HB.out _ _ (HKB.out.suf sfx) hE).mono ?_; clear hE; rintro e w5 ⟨v, h1, h2, hE⟩; cases h1; cases h2)
              | ((with_reducible (show Go.wpList _ _ _ (Go.Oper.mk _ (.load 4 _) _ _ _ _ :: _) _ _)); refine wpl_load1 hE 0 rfl rfl rfl rfl (by simp [go_sem]) rfl ?_))
              go_roundw
              case rel => exact ⟨k + 1, ao, c, out, hlt, by first | rfl | simp, by rw [Hst.out, HFk.out]; simp, rfl, hE.tail⟩
              case measure => simp [intOf] <;> omega
            | true =>
              simp only [if_true] at HFk
              go_wp2_with (first
              | go_skip
              | ((with_reducible (show Go.wpList _ _ _ (Go.Oper.mk _ (.alloc _) _ _ _ _ :: _) _ _)); clear hy; refine wpl_alloc hE rfl rfl (by simp [go_sem]; rfl) ?_; clear hE; intro b8 w hE; simp only [Act.eval, Act.put, List.setIfInBounds_toArray, List.set_cons_zero, List.set_cons_succ, getD_lit, List.getD_cons_succ, List.getD_cons_zero, Value.cells] at hE)
              | (clear A2; (with_reducible (show Go.wpList _ _ _ (Go.Oper.mk _ (.store 49 _ _) _ _ _ _ :: _) _ _)); refine wpl_storeW hE 0 rfl rfl rfl (xs := [.bool true, .bool rd, .string ⟨rb.toArray⟩]) rfl rfl Tryd.sizeOf49 rfl (by simp [Value.oneCell']) rfl ?_; clear hE; intro w8 hE; simp only [List.set_cons_zero] at hE; have hy := atCell (t := 9) (P := Tryd.prog) (f2.out _ hE.tail.tail) (by simp [go_sem]))
              | (go_at_call 29; refine (HA.out _ _ (HKA.out.suf sfx) hE).mono ?_; clear hE; rintro e w5 ⟨v, h1, h2, hE⟩; cases h1; cases h2)
              | (go_at_call 33; clear hy; refine (HB.out _ _ (HKB.out.suf sfx) hE).mono ?_; clear hE; rintro e w5 ⟨v, h1, h2, hE⟩; cases h1; cases h2)
              | ((with_reducible (show Go.wpList _ _ _ (Go.Oper.mk _ (.load 4 _) _ _ _ _ :: _) _ _)); refine wpl_load1 hE 0 rfl rfl rfl rfl (by simp [go_sem]) rfl ?_))
              have hO := hE.drew
              refine wp_region_held_drew (S := (fun w' => ((Instr.loadAt 9 (.pointer (some ⟨ba, oa + k, none⟩))).run Tryd.prog w' = .ok (.string ⟨key.toArray⟩) w') ∧ ((Instr.loadAt 4 (.pointer (some ⟨b8, 1, none⟩))).run Tryd.prog w' = .ok (.bool rd) w') ∧ ((Instr.loadAt 9 (.pointer (some ⟨b8, 2, none⟩))).run Tryd.prog w' = .ok (.string ⟨rb.toArray⟩) w'))) (by kernel_rfl) ⟨(atCell (f2.out _ (hO.suf sfx)) (by simp [go_sem])), (atVm hO (by repeat (first | exact List.Mem.head _ | refine List.Mem.tail _ ?_)) (by simp [go_sem]) rfl), (atVm hO (by repeat (first | exact List.Mem.head _ | refine List.Mem.tail _ ?_)) (by simp [go_sem]) rfl)⟩ (fun hS => ?_)
              refine tV 0 ⟨some 68, .move (.tmp 8), _, _, _, none⟩ hS ?_
              refine tV 1 ⟨some 69, .move (.tmp 7), _, _, _, none⟩ hS ?_
              refine tV 2 ⟨some 70, .move (.tmp 9), _, _, _, none⟩ hS ?_
              refine tV 3 ⟨some 71, .indexAddr 72 (.tmp 69) (.tmp 70), _, _, _, none⟩ hS ?_
              refine tL 4 ⟨some 72, .load 9 (.tmp 71), _, _, _, none⟩ hS ?_
              refine tV 5 ⟨some 73, .fieldAddr 49 (.tmp 10) 1, _, _, _, none⟩ hS ?_
              refine tL 6 ⟨some 74, .load 4 (.tmp 73), _, _, _, none⟩ hS ?_
              refine tV 7 ⟨some 75, .fieldAddr 49 (.tmp 10) 2, _, _, _, none⟩ hS ?_
              refine tL 8 ⟨some 76, .load 9 (.tmp 75), _, _, _, none⟩ hS ?_
              refine tV 9 ⟨some 77, .build 53 #[(0, .tmp 72), (1, .tmp 74), (2, .tmp 76)], _, _, _, none⟩ hS ?_
              refine wpAnyH_ready (rs := [10]) (by kernel_rfl) (by simp) ?_
              refine (AllReadyH.cons (o := ⟨some 78, .buildSlice 22 1 #[(0, .tmp 77)], _, _, _, none⟩) rfl (fun K hK => ?_) AllReadyH.nil)
              (refine step_build1 hO rfl (by rfl) (xs := enC ⟨key, rd, rb⟩) (by rfl) Tryd.underlying22 zs_en Tryd.sizeOf53 (by decide) (by decide) rfl ?_; clear hO; intro b9 w7 hO)
              refine hK.out _ _ ⟨(atCell (f2.out _ (hO.suf sfx)) (by simp [go_sem])), (atVm hO (by repeat (first | exact List.Mem.head _ | refine List.Mem.tail _ ?_)) (by simp [go_sem]) rfl), (atVm hO (by repeat (first | exact List.Mem.head _ | refine List.Mem.tail _ ?_)) (by simp [go_sem]) rfl)⟩ (fun hS => ?_)
              clear hK K
              try simp only [Act.put, sb, s0, sz]
              refine wpAnyH_ready (rs := [11]) (by kernel_rfl) (by simp) ?_
              refine (AllReadyH.cons (o := ⟨some 79, .call { callee := .builtin .append, args := #[.tmp 68, .tmp 78], argTypes := #[22, 22] }, _, _, _, none⟩) rfl (fun K hK => ?_) AllReadyH.nil)
              (refine step_appendG hO 2 rfl rfl (by rfl) (by rfl) (by rfl) Tryd.underlying22 info_en (by decide) (m := 1) (news := enC ⟨key, rd, rb⟩) (reads_pt hO 0 rfl (off := 0) (fun j u hu => by rw [Nat.zero_add, List.getElem?_toArray]; exact hu)) rfl (enC_one _) (by omega) (by omega) ?_; clear hO; intro a7 c7 w8 hO; simp only [List.set_cons_zero, List.set_cons_succ] at hO)
              refine hK.out _ _ ⟨(atCell (f2.out _ (hO.suf sfx)) (by simp [go_sem])), (atVm hO (by repeat (first | exact List.Mem.head _ | refine List.Mem.tail _ ?_)) (by simp [go_sem]) rfl), (atVm hO (by repeat (first | exact List.Mem.head _ | refine List.Mem.tail _ ?_)) (by simp [go_sem]) rfl)⟩ (fun hS => ?_)
              clear hK K
              try simp only [Act.put, sb, s0, sz]
              refine tV 12 ⟨some 8, .assign (.tmp 79), _, _, _, none⟩ hS ?_
              refine wpAnyH_done (by kernel_rfl) ?_ _
              all_goals
                clear hS hE
                have hE := hO.tail.tail
                clear hO
                go_wp2
                go_roundw
                case rel =>
                  have e1 : (out ++ [(⟨key, rd, rb⟩ : En)]).length = out.length + 1 := by simp
                  refine ⟨k + 1, a7, c7, out ++ [⟨key, rd, rb⟩], hlt, by first | rfl | simp, by rw [Hst.out, HFk.out]; rfl, by rw [e1], ?_⟩
                  rw [← rowEn_add]
                  exact hE
                case measure => simp [intOf] <;> omega
          · obtain ⟨bx, ox, rfl, hz⟩ := ch_at (HKB.out _ hE.tail) hlb
            clear hz
            have f0 := SL.hid (show ∀ w, Ent LL w → _ from fun w h => load_rc (HKB.out w h) hlb)
            rw [hib] at HB
            simp only [rNew, rSd, hfb] at HFk
            clear hfb hib
            have hlbi : (ib : Int) < (cs.length : Int) := by omega
            have h0i : (0 : Int) ≤ (ib : Int) := by omega
            generalize rOf es key = s at *
            obtain ⟨rt, rd, rb⟩ := s
            generalize cs[ib] = x at *
            obtain ⟨xp, ⟨ut, ud, ub⟩, ⟨wt, wd, wb⟩⟩ := x
            simp only [chC, sdC] at f0
            simp only at HA HFk
            cases wt with
            | false =>
              simp only [Bool.false_eq_true, if_false] at HFk
              go_wp2_with (first
              | go_skip
              | ((with_reducible (show Go.wpList _ _ _ (Go.Oper.mk _ (.alloc _) _ _ _ _ :: _) _ _)); clear hy; refine wpl_alloc hE rfl rfl (by simp [go_sem]; rfl) ?_; clear hE; intro b8 w hE; simp only [Act.eval, Act.put, List.setIfInBounds_toArray, List.set_cons_zero, List.set_cons_succ, getD_lit, List.getD_cons_succ, List.getD_cons_zero, Value.cells] at hE)
              | (clear A2; (with_reducible (show Go.wpList _ _ _ (Go.Oper.mk _ (.store 49 _ _) _ _ _ _ :: _) _ _)); refine wpl_storeW hE 0 rfl rfl rfl (xs := [.bool rt, .bool rd, .string ⟨rb.toArray⟩]) rfl rfl Tryd.sizeOf49 rfl (by simp [Value.oneCell']) rfl ?_; clear hE; intro w8 hE; simp only [List.set_cons_zero] at hE; have hy := atCell (t := 9) (P := Tryd.prog) (f2.out _ hE.tail.tail) (by simp [go_sem]))
              | (go_at_call 29; refine (HA.out _ _ (HKA.out.suf sfx) hE).mono ?_; clear hE; rintro e w5 ⟨v, h1, h2, hE⟩; cases h1; cases h2)
              | (go_at_call 33; clear hy; refine (HB.out _ _ (HKB.out.suf sfx) hE).mono ?_; clear hE; rintro e w5 ⟨v, h1, h2, hE⟩; cases h1; cases h2; have hld := (f0.out _ hE.tail.tail).2.2.2)
              | ((with_reducible (show Go.wpList _ _ _ (Go.Oper.mk _ (.store 49 _ _) _ _ _ _ :: _) _ _)); clear hld; refine wpl_storeW hE 0 rfl rfl rfl (xs := [.bool false, .bool wd, .string ⟨wb.toArray⟩]) rfl rfl Tryd.sizeOf49 rfl (by simp [Value.oneCell']) rfl ?_; clear hE; intro w8 hE; simp only [List.set_cons_zero] at hE)
              | ((with_reducible (show Go.wpList _ _ _ (Go.Oper.mk _ (.load 4 _) _ _ _ _ :: _) _ _)); refine wpl_load1 hE 0 rfl rfl rfl rfl (by simp [go_sem]) rfl ?_))
              go_roundw
              case rel => exact ⟨k + 1, ao, c, out, hlt, by first | rfl | simp, by rw [Hst.out, HFk.out]; simp, rfl, hE.tail⟩
              case measure => simp [intOf] <;> omega
            | true =>
              simp only [if_true] at HFk
              go_wp2_with (first
              | go_skip
              | ((with_reducible (show Go.wpList _ _ _ (Go.Oper.mk _ (.alloc _) _ _ _ _ :: _) _ _)); clear hy; refine wpl_alloc hE rfl rfl (by simp [go_sem]; rfl) ?_; clear hE; intro b8 w hE; simp only [Act.eval, Act.put, List.setIfInBounds_toArray, List.set_cons_zero, List.set_cons_succ, getD_lit, List.getD_cons_succ, List.getD_cons_zero, Value.cells] at hE)
              | (clear A2; (with_reducible (show Go.wpList _ _ _ (Go.Oper.mk _ (.store 49 _ _) _ _ _ _ :: _) _ _)); refine wpl_storeW hE 0 rfl rfl rfl (xs := [.bool rt, .bool rd, .string ⟨rb.toArray⟩]) rfl rfl Tryd.sizeOf49 rfl (by simp [Value.oneCell']) rfl ?_; clear hE; intro w8 hE; simp only [List.set_cons_zero] at hE; have hy := atCell (t := 9) (P := Tryd.prog) (f2.out _ hE.tail.tail) (by simp [go_sem]))
              | (go_at_call 29; refine (HA.out _ _ (HKA.out.suf sfx) hE).mono ?_; clear hE; rintro e w5 ⟨v, h1, h2, hE⟩; cases h1; cases h2)
              | (go_at_call 33; clear hy; refine (HB.out _ _ (HKB.out.suf sfx) hE).mono ?_; clear hE; rintro e w5 ⟨v, h1, h2, hE⟩; cases h1; cases h2; have hld := (f0.out _ hE.tail.tail).2.2.2)
              | ((with_reducible (show Go.wpList _ _ _ (Go.Oper.mk _ (.store 49 _ _) _ _ _ _ :: _) _ _)); clear hld; refine wpl_storeW hE 0 rfl rfl rfl (xs := [.bool true, .bool wd, .string ⟨wb.toArray⟩]) rfl rfl Tryd.sizeOf49 rfl (by simp [Value.oneCell']) rfl ?_; clear hE; intro w8 hE; simp only [List.set_cons_zero] at hE)
              | ((with_reducible (show Go.wpList _ _ _ (Go.Oper.mk _ (.load 4 _) _ _ _ _ :: _) _ _)); refine wpl_load1 hE 0 rfl rfl rfl rfl (by simp [go_sem]) rfl ?_))
              have hO := hE.drew
              refine wp_region_held_drew (S := (fun w' => ((Instr.loadAt 9 (.pointer (some ⟨ba, oa + k, none⟩))).run Tryd.prog w' = .ok (.string ⟨key.toArray⟩) w') ∧ ((Instr.loadAt 4 (.pointer (some ⟨b8, 1, none⟩))).run Tryd.prog w' = .ok (.bool wd) w') ∧ ((Instr.loadAt 9 (.pointer (some ⟨b8, 2, none⟩))).run Tryd.prog w' = .ok (.string ⟨wb.toArray⟩) w'))) (by kernel_rfl) ⟨(atCell (f2.out _ (hO.suf sfx)) (by simp [go_sem])), (atVm hO (by repeat (first | exact List.Mem.head _ | refine List.Mem.tail _ ?_)) (by simp [go_sem]) rfl), (atVm hO (by repeat (first | exact List.Mem.head _ | refine List.Mem.tail _ ?_)) (by simp [go_sem]) rfl)⟩ (fun hS => ?_)
              refine tV 0 ⟨some 68, .move (.tmp 8), _, _, _, none⟩ hS ?_
              refine tV 1 ⟨some 69, .move (.tmp 7), _, _, _, none⟩ hS ?_
              refine tV 2 ⟨some 70, .move (.tmp 9), _, _, _, none⟩ hS ?_
              refine tV 3 ⟨some 71, .indexAddr 72 (.tmp 69) (.tmp 70), _, _, _, none⟩ hS ?_
              refine tL 4 ⟨some 72, .load 9 (.tmp 71), _, _, _, none⟩ hS ?_
              refine tV 5 ⟨some 73, .fieldAddr 49 (.tmp 10) 1, _, _, _, none⟩ hS ?_
              refine tL 6 ⟨some 74, .load 4 (.tmp 73), _, _, _, none⟩ hS ?_
              refine tV 7 ⟨some 75, .fieldAddr 49 (.tmp 10) 2, _, _, _, none⟩ hS ?_
              refine tL 8 ⟨some 76, .load 9 (.tmp 75), _, _, _, none⟩ hS ?_
              refine tV 9 ⟨some 77, .build 53 #[(0, .tmp 72), (1, .tmp 74), (2, .tmp 76)], _, _, _, none⟩ hS ?_
              refine wpAnyH_ready (rs := [10]) (by kernel_rfl) (by simp) ?_
              refine (AllReadyH.cons (o := ⟨some 78, .buildSlice 22 1 #[(0, .tmp 77)], _, _, _, none⟩) rfl (fun K hK => ?_) AllReadyH.nil)
              (refine step_build1 hO rfl (by rfl) (xs := enC ⟨key, wd, wb⟩) (by rfl) Tryd.underlying22 zs_en Tryd.sizeOf53 (by decide) (by decide) rfl ?_; clear hO; intro b9 w7 hO)
              refine hK.out _ _ ⟨(atCell (f2.out _ (hO.suf sfx)) (by simp [go_sem])), (atVm hO (by repeat (first | exact List.Mem.head _ | refine List.Mem.tail _ ?_)) (by simp [go_sem]) rfl), (atVm hO (by repeat (first | exact List.Mem.head _ | refine List.Mem.tail _ ?_)) (by simp [go_sem]) rfl)⟩ (fun hS => ?_)
              clear hK K
              try simp only [Act.put, sb, s0, sz]
              refine wpAnyH_ready (rs := [11]) (by kernel_rfl) (by simp) ?_
              refine (AllReadyH.cons (o := ⟨some 79, .call { callee := .builtin .append, args := #[.tmp 68, .tmp 78], argTypes := #[22, 22] }, _, _, _, none⟩) rfl (fun K hK => ?_) AllReadyH.nil)
              (refine step_appendG hO 2 rfl rfl (by rfl) (by rfl) (by rfl) Tryd.underlying22 info_en (by decide) (m := 1) (news := enC ⟨key, wd, wb⟩) (reads_pt hO 0 rfl (off := 0) (fun j u hu => by rw [Nat.zero_add, List.getElem?_toArray]; exact hu)) rfl (enC_one _) (by omega) (by omega) ?_; clear hO; intro a7 c7 w8 hO; simp only [List.set_cons_zero, List.set_cons_succ] at hO)
              refine hK.out _ _ ⟨(atCell (f2.out _ (hO.suf sfx)) (by simp [go_sem])), (atVm hO (by repeat (first | exact List.Mem.head _ | refine List.Mem.tail _ ?_)) (by simp [go_sem]) rfl), (atVm hO (by repeat (first | exact List.Mem.head _ | refine List.Mem.tail _ ?_)) (by simp [go_sem]) rfl)⟩ (fun hS => ?_)
              clear hK K
              try simp only [Act.put, sb, s0, sz]
              refine tV 12 ⟨some 8, .assign (.tmp 79), _, _, _, none⟩ hS ?_
              refine wpAnyH_done (by kernel_rfl) ?_ _
              all_goals
                clear hS hE
                have hE := hO.tail.tail
                clear hO
                go_wp2
                go_roundw
                case rel =>
                  have e1 : (out ++ [(⟨key, wd, wb⟩ : En)]).length = out.length + 1 := by simp
                  refine ⟨k + 1, a7, c7, out ++ [⟨key, wd, wb⟩], hlt, by first | rfl | simp, by rw [Hst.out, HFk.out]; rfl, by rw [e1], ?_⟩
                  rw [← rowEn_add]
                  exact hE
                case measure => simp [intOf] <;> omega
        · obtain rfl : k = all.length := by omega
          rw [List.take_length] at hout
          obtain ⟨m, hl⟩ := hl
          subst hl
          rw [← hout] at HXR Hok
          have hsame := build_same out
          have HBu := SL.hid (fun (L : List HProp) (w : World) hk (h : Ent L w) => rBuild_any (es := out) (ao := ao) (c := c) (by omega) Hok.out hk h)
          unfold BdPost at HBu
          clear hout
          by_cases h0 : (buildT out).1 = 0
          · have hG := (hsame.2 h0).1
            rw [(hsame.2 h0).2] at hG
            have HEn := SL.hid (fun (lb L' : List HProp) (w : World) (a1 : Option Addr) (c1 : Nat) hk (hs : lb <:+ L') (h : Ent L' w) => rEntries_any (t := (buildT out).2) (L := out) (ao := a1) (c := c1) (l := lb) hG (by omega) (fun x hx => (Hok.out x hx).1) hk hs h)
            rw [← hsame.1, h0, (hsame.2 h0).2] at HBu
            have HX2 := SL.hid (show XR = (0, entT 6 [] (buildT out).2) by rw [← HXR.out, HFit.out, if_pos rfl, if_pos h0])
            clear h0 hG hsame HXR
            go_wp2_with (first
              | go_skip
              | (go_at_call 34; refine (HBu.out _ _ (fun w h => reads_row h 0 rfl) hE).mono ?_; clear hE; rintro e w5 ⟨v, h1, m2, a2, c2, h2, hE, hK⟩; cases h1; cases h2)
              | ((with_reducible (show Go.wpList _ _ _ (Go.Oper.mk _ (.alloc _) _ _ _ _ :: _) _ _)); refine wpl_alloc hE rfl rfl (by simp [go_sem]; rfl) ?_; clear hE; intro b12 w hE; simp only [Act.eval, Act.put, List.setIfInBounds_toArray, List.set_cons_zero, List.set_cons_succ, getD_lit, List.getD_cons_succ, List.getD_cons_zero, Value.cells] at hE)
              | ((with_reducible (show Go.wpList _ _ _ (Go.Oper.mk _ (.store 78 _ _) _ _ _ _ :: _) _ _)); (first | (refine wpl_storeW hE 0 rfl rfl rfl (xs := [.slice a2 out.length c2]) rfl rfl Tryd.sizeOf78 rfl (by simp [Value.oneCell']) rfl ?_) | (refine wpl_storeW hE 1 rfl rfl rfl (xs := [.slice a2 out.length c2]) rfl rfl Tryd.sizeOf78 rfl (by simp [Value.oneCell']) rfl ?_) | (refine wpl_storeW hE 2 rfl rfl rfl (xs := [.slice a2 out.length c2]) rfl rfl Tryd.sizeOf78 rfl (by simp [Value.oneCell']) rfl ?_) | (refine wpl_storeW hE 3 rfl rfl rfl (xs := [.slice a2 out.length c2]) rfl rfl Tryd.sizeOf78 rfl (by simp [Value.oneCell']) rfl ?_) | (refine wpl_storeW hE 4 rfl rfl rfl (xs := [.slice a2 out.length c2]) rfl rfl Tryd.sizeOf78 rfl (by simp [Value.oneCell']) rfl ?_) | (refine wpl_storeW hE 5 rfl rfl rfl (xs := [.slice a2 out.length c2]) rfl rfl Tryd.sizeOf78 rfl (by simp [Value.oneCell']) rfl ?_) | (refine wpl_storeW hE 6 rfl rfl rfl (xs := [.slice a2 out.length c2]) rfl rfl Tryd.sizeOf78 rfl (by simp [Value.oneCell']) rfl ?_) | (refine wpl_storeW hE 7 rfl rfl rfl (xs := [.slice a2 out.length c2]) rfl rfl Tryd.sizeOf78 rfl (by simp [Value.oneCell']) rfl ?_)); clear hE; intro w hE; simp only [List.set_cons_zero, List.set_cons_succ] at hE)
              | ((with_reducible (show Go.wpList _ _ _ (Go.Oper.mk _ (.load 78 _) _ _ _ _ :: _) _ _)); (first | (refine wpl_loadW hE 0 rfl rfl rfl rfl Tryd.isAgg78 Tryd.sizeOf78 rfl ?_) | (refine wpl_loadW hE 1 rfl rfl rfl rfl Tryd.isAgg78 Tryd.sizeOf78 rfl ?_) | (refine wpl_loadW hE 2 rfl rfl rfl rfl Tryd.isAgg78 Tryd.sizeOf78 rfl ?_) | (refine wpl_loadW hE 3 rfl rfl rfl rfl Tryd.isAgg78 Tryd.sizeOf78 rfl ?_) | (refine wpl_loadW hE 4 rfl rfl rfl rfl Tryd.isAgg78 Tryd.sizeOf78 rfl ?_) | (refine wpl_loadW hE 5 rfl rfl rfl rfl Tryd.isAgg78 Tryd.sizeOf78 rfl ?_) | (refine wpl_loadW hE 6 rfl rfl rfl rfl Tryd.isAgg78 Tryd.sizeOf78 rfl ?_) | (refine wpl_loadW hE 7 rfl rfl rfl rfl Tryd.isAgg78 Tryd.sizeOf78 rfl ?_)))
              | (go_at_call 35; refine (HEn.out _ _ _ _ _ hK (List.suffix_cons _ _) hE).mono ?_; clear hE; rintro e w5 ⟨v, h1, a5, c5, m5, h2, hE⟩; cases h1; cases h2))
            refine bodyPost_ret (results_tmp2 rfl _ _ _) rfl ?_
            refine ⟨_, rfl, ?_⟩
            rw [HX2.out]
            exact ⟨a5, c5, m5 ++ (pt b12 (.cells #[.slice a2 out.length c2] 78) :: (m2 ++ (rowEn ao c out :: m))), rfl, by simpa using hE⟩
          · have hne : ((buildT out).1 != 0) = true := by simpa using h0
            rw [← hsame.1] at HBu
            have HX2 := SL.hid (show XR = ((buildT out).1, []) by rw [← HXR.out, HFit.out, if_pos rfl, if_neg h0])
            clear h0 hsame HXR
            generalize (buildD out).2 = L2 at *
            generalize (buildT out).1 = er at *
            go_wp2_with (first
              | go_skip
              | (go_at_call 34; refine (HBu.out _ _ (fun w h => reads_row h 0 rfl) hE).mono ?_; clear hE; rintro e w5 ⟨v, h1, m2, a2, c2, h2, hE, hK⟩; cases h1; cases h2)
              | ((with_reducible (show Go.wpList _ _ _ (Go.Oper.mk _ (.alloc _) _ _ _ _ :: _) _ _)); refine wpl_alloc hE rfl rfl (by simp [go_sem]; rfl) ?_; clear hE; intro b12 w hE; simp only [Act.eval, Act.put, List.setIfInBounds_toArray, List.set_cons_zero, List.set_cons_succ, getD_lit, List.getD_cons_succ, List.getD_cons_zero, Value.cells] at hE)
              | ((with_reducible (show Go.wpList _ _ _ (Go.Oper.mk _ (.store 78 _ _) _ _ _ _ :: _) _ _)); (first | (refine wpl_storeW hE 0 rfl rfl rfl (xs := [.slice a2 L2.length c2]) rfl rfl Tryd.sizeOf78 rfl (by simp [Value.oneCell']) rfl ?_) | (refine wpl_storeW hE 1 rfl rfl rfl (xs := [.slice a2 L2.length c2]) rfl rfl Tryd.sizeOf78 rfl (by simp [Value.oneCell']) rfl ?_) | (refine wpl_storeW hE 2 rfl rfl rfl (xs := [.slice a2 L2.length c2]) rfl rfl Tryd.sizeOf78 rfl (by simp [Value.oneCell']) rfl ?_) | (refine wpl_storeW hE 3 rfl rfl rfl (xs := [.slice a2 L2.length c2]) rfl rfl Tryd.sizeOf78 rfl (by simp [Value.oneCell']) rfl ?_) | (refine wpl_storeW hE 4 rfl rfl rfl (xs := [.slice a2 L2.length c2]) rfl rfl Tryd.sizeOf78 rfl (by simp [Value.oneCell']) rfl ?_) | (refine wpl_storeW hE 5 rfl rfl rfl (xs := [.slice a2 L2.length c2]) rfl rfl Tryd.sizeOf78 rfl (by simp [Value.oneCell']) rfl ?_) | (refine wpl_storeW hE 6 rfl rfl rfl (xs := [.slice a2 L2.length c2]) rfl rfl Tryd.sizeOf78 rfl (by simp [Value.oneCell']) rfl ?_) | (refine wpl_storeW hE 7 rfl rfl rfl (xs := [.slice a2 L2.length c2]) rfl rfl Tryd.sizeOf78 rfl (by simp [Value.oneCell']) rfl ?_)); clear hE; intro w hE; simp only [List.set_cons_zero, List.set_cons_succ] at hE))
            refine bodyPost_ret (results_tmp2 rfl _ _ _) rfl ?_
            refine ⟨_, rfl, ?_⟩
            rw [HX2.out]
            exact ⟨none, 0, [], rfl, hE.tail.drop.tail.drop.nil _ _⟩
end Go.Proofs.YtljfkejkohmimaaDoor
namespace Go.Proofs.YtljfkejkohmimaaDoor
open Go.RowKit Go.SL

theorem may_path {cs : List Ch} (h : mayB cs = true) : (∀ c ∈ cs, c.path ≠ []) ∧ RiseP (cs.map Ch.path) := by
  have h : mayR cs := by simpa [mayB] using h
  refine ⟨fun c hc e => ?_, h.2⟩
  have := List.all_eq_true.1 h.1 c hc
  rw [e] at this
  simp [show splitL [] = [] from rfl] at this
theorem fit_same {es : List En} {cs : List Ch} (hm : mayB cs = true) : ((pairsA es cs).all fun p => fitA p.1 p.2) = rFit es cs := by
  obtain ⟨hp, hr⟩ := may_path hm
  rw [Bool.eq_iff_iff]
  unfold pairsA rFit
  rw [List.all_map, List.all_eq_true, List.all_eq_true]
  constructor
  · intro h c hc
    have h1 := h c.path (by rw [sortK_mem, List.mem_append]; exact .inr (List.mem_map_of_mem hc))
    have h2 := find_rise hr hc
    simp only [Function.comp, pairAt, h2, fitA] at h1
    rw [rOf_fE (hp c hc)]
    exact h1
  · intro h k hk
    simp only [Function.comp, pairAt]
    cases hf : cs.find? (fun z => z.path == k) with
    | none => cases es.find? (fun z => z.path == k) <;> rfl
    | some c =>
      obtain ⟨h1, h2⟩ := find_key hf
      have h3 := h c h2
      rw [rOf_fE (hp c h2), h1] at h3
      exact h3
theorem out_same {es : List En} {cs : List Ch} (he : ∀ x ∈ es, x.path ≠ []) (hm : mayB cs = true) (hf : ((pairsA es cs).all fun p => fitA p.1 p.2) = true) : (pairsA es cs).filterMap stepA = rOut es cs := by
  obtain ⟨hp, hr⟩ := may_path hm
  unfold pairsA rOut at *
  rw [List.filterMap_map]
  refine fm_congr fun k hk => ?_
  have h1 := List.all_eq_true.1 hf (pairAt En.path Ch.path es cs k) (List.mem_map_of_mem hk)
  rw [sortK_mem, List.mem_append] at hk
  have hn : k ≠ [] := by
    rcases hk with h | h
    · obtain ⟨y, hy, rfl⟩ := List.mem_map.1 h
      exact he y hy
    · obtain ⟨y, hy, rfl⟩ := List.mem_map.1 h
      exact hp y hy
  simp only [Function.comp, pairAt] at h1 ⊢
  unfold stepA
  rw [if_pos h1]
  unfold rNew rSd
  cases hc : cs.find? (fun z => z.path == k) with
  | none =>
    simp only [actO]
    rw [rOf_fE hn, fE]
    cases hx : es.find? (fun z => z.path == k) with
    | none => rfl
    | some x =>
      obtain ⟨h2, _⟩ := find_key hx
      simp only [sideO, if_true]
      rw [← h2]
  | some c =>
    obtain ⟨h2, _⟩ := find_key hc
    simp only [actO]
    rw [h2]
/-- both trees behind changes -/
theorem ap_same {es : List En} {cs : List Ch} (he : ∀ x ∈ es, x.path ≠ []) (hl : es.length + cs.length ≤ 1000) : (apR es cs).1 = (rApR es cs).1 ∧ ((apR es cs).1 ≠ 0 → (apR es cs).2 = .zero) ∧ ((apR es cs).1 = 0 → Tr.Wf 6 (apR es cs).2 ∧ (rApR es cs).2 = entT 6 [] (apR es cs).2 ∧ (entT 6 [] (apR es cs).2).length ≤ 1000) := by
  unfold apR rApR
  cases hm : mayB cs with
  | false => exact ⟨rfl, fun _ => rfl, fun h => by simp at h⟩
  | true =>
    simp only [if_true]
    rw [← fit_same hm]
    cases hf : ((pairsA es cs).all fun p => fitA p.1 p.2) with
    | false => exact ⟨rfl, fun _ => rfl, fun h => by simp at h⟩
    | true =>
      simp only [if_true]
      have hlen : ((pairsA es cs).filterMap stepA).length ≤ 1000 := by
        have h1 := List.length_filterMap_le stepA (pairsA es cs)
        have h2 := sortK_len (es.map En.path ++ cs.map Ch.path)
        have h3 : (pairsA es cs).length = (sortK (es.map En.path ++ cs.map Ch.path)).length := List.length_map _
        rw [List.length_append, List.length_map, List.length_map] at h2
        omega
      rw [← out_same he hm hf]
      generalize (pairsA es cs).filterMap stepA = out at *
      by_cases h0 : (buildT out).1 = 0
      · rw [if_pos h0]
        have hG := ((build_same out).2 h0).1
        rw [((build_same out).2 h0).2] at hG
        exact ⟨h0, fun h => absurd h0 h, fun _ => ⟨hG.2.1, rfl, by rw [(all_perm hG).length_eq]; exact hlen⟩⟩
      · rw [if_neg h0]
        exact ⟨rfl, fun h => buildT_zero h, fun h => absurd h h0⟩
theorem K_A {b : Nat} {x y z : Value} {A : HProp} {m X : List HProp} {v : Value} {ks : List (List UInt8 × Tr)} (hK : KidsAt (m ++ (A :: anyN b :: X)) v ks) {w : World} (_ : Ent (pt b (.cells #[x, y, z] 26) :: A :: (m ++ X)) w) : KidsAt (pt b (.cells #[x, y, z] 26) :: A :: (m ++ X)) v ks :=
  hK.mono (fun p hp W hW => hp W (Ent.swap (a := [A, anyN b]) (b := m) ((anyN_of hW).front 1 rfl)))
theorem K_B {b : Nat} {x y z : Value} {m X : List HProp} {v : Value} {ks : List (List UInt8 × Tr)} (hK : KidsAt (m ++ (anyN b :: X)) v ks) {w : World} (_ : Ent (pt b (.cells #[x, y, z] 26) :: (m ++ X)) w) : KidsAt (pt b (.cells #[x, y, z] 26) :: (m ++ X)) v ks :=
  hK.mono (fun p hp W hW => hp W (Ent.swap (a := [anyN b]) (b := m) (anyN_of hW)))
theorem K_C {b : Nat} {x y z : Value} {X : List HProp} {v : Value} {ks : List (List UInt8 × Tr)} (hK : KidsAt X v ks) {w : World} (_ : Ent (pt b (.cells #[x, y, z] 26) :: X) w) : KidsAt (pt b (.cells #[x, y, z] 26) :: X) v ks := hK.suf (List.suffix_cons _ _)
set_option maxRecDepth 100000 in
set_option maxHeartbeats 4000000 in
theorem applies_not {xs : List En} {cs : List Ch} {b1 b2 : Bool} (h1 : (treeP xs).isSome = b1) (h2 : gr28 cs = b2) (hn : b1 = false ∨ b2 = true) {aa ab : Option Addr} {ca cb : Nat} {l : List HProp} {w : World} (hka : Knows l (reads (.slice aa xs.length ca) xs.length (xs.flatMap enC))) (hkb : Knows l (reads (.slice ab cs.length cb) cs.length (cs.flatMap chC))) (hE : Ent l w) :
    Calls Tryd.prog 3 #[.slice aa xs.length ca, .slice ab cs.length cb] w (Ret fun v w' => v = .bool true ∧ Ent l w') := by
  have HT := SL.hid (fun (L : List HProp) (w : World) (hs : l <:+ L) (h : Ent L w) => Tree_tf h1 (hka.suf hs) h)
  have HG := SL.hid (fun (L : List HProp) (w : World) (hs : l <:+ L) (h : Ent L w) => Great28_any (hkb.suf hs) h)
  unfold G28Post at HG
  rw [h2] at HG
  clear h1 h2 hka hkb
  cases b1 <;> cases b2
  case' true.false =>
    exfalso
    rcases hn with h | h <;> cases h
  all_goals
    clear hn
    go_enter Tryd.func3, Tryd.ntmps3
    go_wp2_with (first
      | go_skip
      | (go_at_call 5; refine (HT.out _ _ sfx hE).mono ?_; clear hE; rintro e w2 ⟨v, h1, m, d, s, a, n, c, a', n', c', h2, hE⟩; cases h1; cases h2)
      | (go_at_call 6; refine (HG.out _ _ sfx hE).mono ?_; clear hE; rintro e w2 ⟨v, h1, h2, hE⟩; cases h1; cases h2)
      | ((with_reducible (show Go.wpList _ _ _ (Go.Oper.mk _ (.alloc 26) _ _ _ _ :: _) _ _)); refine wpl_alloc hE rfl rfl (by simp [go_sem]; rfl) ?_; clear hE; intro b w hE; simp only [Act.eval, Act.put, List.setIfInBounds_toArray, List.set_cons_zero, List.set_cons_succ, getD_lit, List.getD_cons_succ, List.getD_cons_zero, Value.cells] at hE)
      | ((with_reducible (show Go.wpList _ _ _ (Go.Oper.mk _ (.store 26 _ _) _ _ _ _ :: _) _ _)); refine wpl_storeW hE 0 rfl rfl rfl (xs := [_, _, _]) rfl rfl Tryd.sizeOf26 rfl (by simp [Value.oneCell']) rfl ?_; clear hE; intro w hE; simp only [List.set_cons_zero] at hE)
      | (go_at_call 7; refine (wakes28_any hE).mono ?_; clear hE; rintro e w2 ⟨v, h1, h2, m9, hE⟩; cases h1; cases h2))
    refine bodyPost_ret (results_tmp rfl _ _ _) rfl ?_
    exact ⟨_, rfl, rfl, hE.suf sfx⟩
set_option maxRecDepth 100000 in
set_option maxHeartbeats 8000000 in
attribute [-go_sem] Instr.loadAt in
theorem applies_err {xs : List En} {cs : List Ch} {t : Tr} (h1 : treeP xs = some t) (h2 : gr28 cs = false) {er : Int} {ol : List En} (hR : apR (entT 6 [] t) cs = (er, .zero)) (hR2 : rApR (entT 6 [] t) cs = (er, ol)) (h0 : er ≠ 0) {aa ab : Option Addr} {ca cb : Nat} {l : List HProp} {w : World} (hka : Knows l (reads (.slice aa xs.length ca) xs.length (xs.flatMap enC))) (hkb : Knows l (reads (.slice ab cs.length cb) cs.length (cs.flatMap chC))) (hE : Ent l w) :
    Calls Tryd.prog 3 #[.slice aa xs.length ca, .slice ab cs.length cb] w (Ret fun v w' => v = .bool true ∧ Ent l w') := by
  have HT := SL.hid (fun (L : List HProp) (w : World) (hs : l <:+ L) (h : Ent L w) => Tree_good h1 (hka.suf hs) h)
  have HG := SL.hid (fun (L : List HProp) (w : World) (hs : l <:+ L) (h : Ent L w) => Great28_any (hkb.suf hs) h)
  unfold G28Post at HG
  rw [h2] at HG
  obtain ⟨w1, d1, e1, l1, k1, n1, r1⟩ := tree_ents h1
  obtain ⟨l2, k2⟩ := gr28_not.1 h2
  have q2 : ∀ x ∈ cs, x.path.length ≤ 100000 := fun x hx => by have := (k2 x hx).1; omega
  have HLO := SL.hid (fun (L : List HProp) (w : World) (a1 : Option Addr) (c1 : Nat) hk (h : Ent L w) => lOf_any (es := cs) (by omega) (ao := a1) (c := c1) hk h)
  have HA := SL.hid (fun (L : List HProp) (w : World) (v1 : Value) (a1 : Option Addr) (c1 : Nat) hc hk hr (h : Ent L w) => Apply_in w1 (cs := cs) (by omega) (fun x hx => by have := (k1 x hx).2; omega) (fun x hx => ⟨q2 x hx, by have := (k2 x hx).2.2; omega⟩) (kv := v1) (ao := a1) (c := c1) hc (l := L) hk (fun L' w' hs h => may_any (by omega) q2 (Knows.suf hr hs) h) hr h)
  have HRA := SL.hid (fun (L : List HProp) (w : World) (a1 a2 : Option Addr) (c1 c2 : Nat) hk1 hk2 (h : Ent L w) => rApply_any (es := entT 6 [] t) (cs := cs) (by omega) (by omega) (fun x hx => ⟨by have := (k1 x hx).1; omega, by have := (k1 x hx).2; omega⟩) (fun x hx => ⟨q2 x hx, by have := (k2 x hx).2.2; omega⟩) (ae := a1) (ac := a2) (ce := c1) (cc := c2) hk1 hk2 h)
  rw [hR] at HA
  rw [hR2] at HRA
  unfold ApPost at HA
  unfold RaPost at HRA
  unfold TgPost at HT
  simp only [nodeV] at HA
  have KB := SL.hid hkb
  have hne : (er != 0) = true := by simpa using h0
  simp only [Tr.zero, Tr.dir, Tr.data, Tr.kids] at HA
  clear h0
  generalize entT 6 [] t = es at *
  clear hka hkb h1 h2 w1 k1 k2 q2 n1 r1 d1 e1 l1 l2 hR hR2
  go_enter Tryd.func3, Tryd.ntmps3
  go_wp2_with (first
    | go_skip
    | (go_at_call 5; refine (HT.out _ _ sfx hE).mono ?_; clear hE; rintro e w2 ⟨v, h1, m1, ka, kc, ea, ec, h2, hE, hK1, hR1⟩; cases h1; cases h2)
    | (go_at_call 6; refine (HG.out _ _ sfx hE).mono ?_; clear hE; rintro e w2 ⟨v, h1, h2, hE⟩; cases h1; cases h2)
    | ((with_reducible (show Go.wpList _ _ _ (Go.Oper.mk _ (.alloc 26) _ _ _ _ :: _) _ _)); refine wpl_alloc hE rfl rfl (by simp [go_sem]; rfl) ?_; clear hE; intro b w hE; simp only [Act.eval, Act.put, List.setIfInBounds_toArray, List.set_cons_zero, List.set_cons_succ, getD_lit, List.getD_cons_succ, List.getD_cons_zero, Value.cells] at hE)
    | ((with_reducible (show Go.wpList _ _ _ (Go.Oper.mk _ (.store 26 (.tmp 5) _) _ _ _ _ :: _) _ _)); refine wpl_storeW hE 0 rfl rfl rfl (xs := [_, _, _]) rfl rfl Tryd.sizeOf26 rfl (by simp [Value.oneCell']) rfl ?_; clear hE; intro w hE; simp only [List.set_cons_zero] at hE; have F1 := SL.hid (node_knows hE)))
  have hO := hE.drew
  refine wp_region_held_drew (S := (fun w' => ((Instr.loadAt 26 (.pointer (some ⟨b, 0, none⟩))).run Tryd.prog w' = .ok (.agg #[.bool t.dir, .string ⟨t.data.toArray⟩, .slice ka t.kids.length kc]) w'))) (by kernel_rfl) (F1.out _ (hO.suf sfx)) (fun hS => ?_)
  refine tL 0 ⟨some 26, .load 26 (.tmp 5), _, _, _, none⟩ hS ?_
  refine tV 1 ⟨some 27, .move (.tmp 1), _, _, _, none⟩ hS ?_
  refine wpAnyH_ready (rs := [2, 7]) (by kernel_rfl) (by simp) ?_
  refine (AllReadyH.cons (o := ⟨some 28, .call { callee := .value (.func 9), args := #[.tmp 27], argTypes := #[23] }, _, _, _, none⟩) rfl (fun K hK => ?_) (AllReadyH.cons (o := ⟨some 8, .alloc 26, _, _, _, none⟩) rfl (fun K hK => ?_) AllReadyH.nil))
  focus
    (go_simp; refine (HLO.out _ _ _ _ (KB.out.suf sfx) hO).mono ?_; clear hO; rintro e w5 ⟨v, h1, a5, c5, h2, hO⟩; cases h1; cases h2; have K5 := SL.hid (row_knows hO); have cK5 := SL.hid (row_capQ hO 0 rfl))
    refine hK.out _ _ (F1.out _ (hO.suf sfx)) (fun hS => ?_)
    clear hK K
    try simp only [Act.put, sb, s0, sz]
    refine wpAnyH_ready (rs := [3, 7]) (by kernel_rfl) (by simp) ?_
    refine (AllReadyH.cons (o := ⟨some 29, .call { callee := .value (.func 8), args := #[.tmp 26, .tmp 28], argTypes := #[26, 34] }, _, _, _, none⟩) rfl (fun K hK => ?_) (AllReadyH.cons (o := ⟨some 8, .alloc 26, _, _, _, none⟩) rfl (fun K hK => ?_) AllReadyH.nil))
    focus
      (go_simp; refine (HA.out _ _ _ _ _ cK5.out (hK1.suf sfx) (K5.out.suf sfx) hO).mono ?_; clear hO; rintro e w5 ⟨v, h1, m6, a6, c6, h2, hO, hK6⟩; cases h1; cases h2)
      refine hK.out _ _ (F1.out _ (hO.suf sfx)) (fun hS => ?_)
      clear hK K
      try simp only [Act.put, sb, s0, sz]
      refine tV 4 ⟨some 25, .move (.tmp 29), _, _, _, none⟩ hS ?_
      refine tV 5 ⟨some 30, .extract (.tmp 25) 0, _, _, _, none⟩ hS ?_
      refine tV 6 ⟨some 31, .extract (.tmp 25) 1, _, _, _, none⟩ hS ?_
      refine wpAnyH_ready (rs := [7]) (by kernel_rfl) (by simp) ?_
      refine (AllReadyH.cons (o := ⟨some 8, .alloc 26, _, _, _, none⟩) rfl (fun K hK => ?_) AllReadyH.nil)
      (go_simp; replace hO := anyN_of (hO.alloc (.cells #[.bool false, .string ⟨#[]⟩, .slice none 0 0] 26)))
      refine hK.out _ _ (F1.out _ (hO.suf sfx)) (fun hS => ?_)
      clear hK K
      try simp only [Act.put, sb, s0, sz]
      refine wpAnyH_ready (rs := [8]) (by kernel_rfl) (by simp) ?_
      refine (AllReadyH.cons (o := ⟨none, .store 26 (.tmp 8) (.tmp 30), _, _, _, none⟩) rfl (fun K hK => ?_) AllReadyH.nil)
      (first | (have h2 := (Ent.swap (a := m6) (b := [_, _]) hO).front 1 rfl; obtain ⟨⟨z0, z1, z2⟩, hU⟩ := h2.unpack; refine step_storeW hU 0 rfl (by rfl) (by rfl) (by rfl) (xs := [.bool false, .string ⟨#[]⟩, .slice a6 0 c6]) (by rfl) Tryd.sizeOf26 rfl (by simp [Value.oneCell']) rfl ?_; intro w7 hS8; simp only [List.set_cons_zero, List.set_cons_succ, List.cons_append, List.append_eq, List.nil_append, List.eraseIdx_cons_succ, List.eraseIdx_cons_zero] at hS8; have hK8 := K_A hK6 hS8) | (have h2 := Ent.swap (a := m6) (b := [_]) hO; obtain ⟨⟨z0, z1, z2⟩, hU⟩ := h2.unpack; refine step_storeW hU 0 rfl (by rfl) (by rfl) (by rfl) (xs := [.bool false, .string ⟨#[]⟩, .slice a6 0 c6]) (by rfl) Tryd.sizeOf26 rfl (by simp [Value.oneCell']) rfl ?_; intro w7 hS8; simp only [List.set_cons_zero, List.set_cons_succ, List.cons_append, List.append_eq, List.nil_append, List.eraseIdx_cons_succ, List.eraseIdx_cons_zero] at hS8; have hK8 := K_B hK6 hS8) | (have h2 := hO; obtain ⟨⟨z0, z1, z2⟩, hU⟩ := h2.unpack; refine step_storeW hU 0 rfl (by rfl) (by rfl) (by rfl) (xs := [.bool false, .string ⟨#[]⟩, .slice a6 0 c6]) (by rfl) Tryd.sizeOf26 rfl (by simp [Value.oneCell']) rfl ?_; intro w7 hS8; simp only [List.set_cons_zero, List.set_cons_succ, List.cons_append, List.append_eq, List.nil_append, List.eraseIdx_cons_succ, List.eraseIdx_cons_zero] at hS8; have hK8 := K_C hK6 hS8))
      refine hK.out _ _ (F1.out _ (hS8.suf sfx)) (fun hS => ?_)
      clear hK K
      try simp only [Act.put, sb, s0, sz]
      refine tV 9 ⟨some 9, .assign (.tmp 31), _, _, _, none⟩ hS ?_
      refine wpAnyH_done (by kernel_rfl) ?_ _
    rotate_right
    focus
      (go_simp; replace hO := anyN_of (hO.alloc (.cells #[.bool false, .string ⟨#[]⟩, .slice none 0 0] 26)))
      refine hK.out _ _ (F1.out _ (hO.suf sfx)) (fun hS => ?_)
      clear hK K
      try simp only [Act.put, sb, s0, sz]
      refine wpAnyH_ready (rs := [3]) (by kernel_rfl) (by simp) ?_
      refine (AllReadyH.cons (o := ⟨some 29, .call { callee := .value (.func 8), args := #[.tmp 26, .tmp 28], argTypes := #[26, 34] }, _, _, _, none⟩) rfl (fun K hK => ?_) AllReadyH.nil)
      (go_simp; refine (HA.out _ _ _ _ _ cK5.out (hK1.suf sfx) (K5.out.suf sfx) hO).mono ?_; clear hO; rintro e w5 ⟨v, h1, m6, a6, c6, h2, hO, hK6⟩; cases h1; cases h2)
      refine hK.out _ _ (F1.out _ (hO.suf sfx)) (fun hS => ?_)
      clear hK K
      try simp only [Act.put, sb, s0, sz]
      refine tV 4 ⟨some 25, .move (.tmp 29), _, _, _, none⟩ hS ?_
      refine tV 5 ⟨some 30, .extract (.tmp 25) 0, _, _, _, none⟩ hS ?_
      refine tV 6 ⟨some 31, .extract (.tmp 25) 1, _, _, _, none⟩ hS ?_
      refine wpAnyH_ready (rs := [8]) (by kernel_rfl) (by simp) ?_
      refine (AllReadyH.cons (o := ⟨none, .store 26 (.tmp 8) (.tmp 30), _, _, _, none⟩) rfl (fun K hK => ?_) AllReadyH.nil)
      (first | (have h2 := (Ent.swap (a := m6) (b := [_, _]) hO).front 1 rfl; obtain ⟨⟨z0, z1, z2⟩, hU⟩ := h2.unpack; refine step_storeW hU 0 rfl (by rfl) (by rfl) (by rfl) (xs := [.bool false, .string ⟨#[]⟩, .slice a6 0 c6]) (by rfl) Tryd.sizeOf26 rfl (by simp [Value.oneCell']) rfl ?_; intro w7 hS8; simp only [List.set_cons_zero, List.set_cons_succ, List.cons_append, List.append_eq, List.nil_append, List.eraseIdx_cons_succ, List.eraseIdx_cons_zero] at hS8; have hK8 := K_A hK6 hS8) | (have h2 := Ent.swap (a := m6) (b := [_]) hO; obtain ⟨⟨z0, z1, z2⟩, hU⟩ := h2.unpack; refine step_storeW hU 0 rfl (by rfl) (by rfl) (by rfl) (xs := [.bool false, .string ⟨#[]⟩, .slice a6 0 c6]) (by rfl) Tryd.sizeOf26 rfl (by simp [Value.oneCell']) rfl ?_; intro w7 hS8; simp only [List.set_cons_zero, List.set_cons_succ, List.cons_append, List.append_eq, List.nil_append, List.eraseIdx_cons_succ, List.eraseIdx_cons_zero] at hS8; have hK8 := K_B hK6 hS8) | (have h2 := hO; obtain ⟨⟨z0, z1, z2⟩, hU⟩ := h2.unpack; refine step_storeW hU 0 rfl (by rfl) (by rfl) (by rfl) (xs := [.bool false, .string ⟨#[]⟩, .slice a6 0 c6]) (by rfl) Tryd.sizeOf26 rfl (by simp [Value.oneCell']) rfl ?_; intro w7 hS8; simp only [List.set_cons_zero, List.set_cons_succ, List.cons_append, List.append_eq, List.nil_append, List.eraseIdx_cons_succ, List.eraseIdx_cons_zero] at hS8; have hK8 := K_C hK6 hS8))
      refine hK.out _ _ (F1.out _ (hS8.suf sfx)) (fun hS => ?_)
      clear hK K
      try simp only [Act.put, sb, s0, sz]
      refine tV 9 ⟨some 9, .assign (.tmp 31), _, _, _, none⟩ hS ?_
      refine wpAnyH_done (by kernel_rfl) ?_ _
  rotate_right
  focus
    (go_simp; replace hO := anyN_of (hO.alloc (.cells #[.bool false, .string ⟨#[]⟩, .slice none 0 0] 26)))
    refine hK.out _ _ (F1.out _ (hO.suf sfx)) (fun hS => ?_)
    clear hK K
    try simp only [Act.put, sb, s0, sz]
    refine wpAnyH_ready (rs := [2]) (by kernel_rfl) (by simp) ?_
    refine (AllReadyH.cons (o := ⟨some 28, .call { callee := .value (.func 9), args := #[.tmp 27], argTypes := #[23] }, _, _, _, none⟩) rfl (fun K hK => ?_) AllReadyH.nil)
    (go_simp; refine (HLO.out _ _ _ _ (KB.out.suf sfx) hO).mono ?_; clear hO; rintro e w5 ⟨v, h1, a5, c5, h2, hO⟩; cases h1; cases h2; have K5 := SL.hid (row_knows hO); have cK5 := SL.hid (row_capQ hO 0 rfl))
    refine hK.out _ _ (F1.out _ (hO.suf sfx)) (fun hS => ?_)
    clear hK K
    try simp only [Act.put, sb, s0, sz]
    refine wpAnyH_ready (rs := [3]) (by kernel_rfl) (by simp) ?_
    refine (AllReadyH.cons (o := ⟨some 29, .call { callee := .value (.func 8), args := #[.tmp 26, .tmp 28], argTypes := #[26, 34] }, _, _, _, none⟩) rfl (fun K hK => ?_) AllReadyH.nil)
    (go_simp; refine (HA.out _ _ _ _ _ cK5.out (hK1.suf sfx) (K5.out.suf sfx) hO).mono ?_; clear hO; rintro e w5 ⟨v, h1, m6, a6, c6, h2, hO, hK6⟩; cases h1; cases h2)
    refine hK.out _ _ (F1.out _ (hO.suf sfx)) (fun hS => ?_)
    clear hK K
    try simp only [Act.put, sb, s0, sz]
    refine tV 4 ⟨some 25, .move (.tmp 29), _, _, _, none⟩ hS ?_
    refine tV 5 ⟨some 30, .extract (.tmp 25) 0, _, _, _, none⟩ hS ?_
    refine tV 6 ⟨some 31, .extract (.tmp 25) 1, _, _, _, none⟩ hS ?_
    refine wpAnyH_ready (rs := [8]) (by kernel_rfl) (by simp) ?_
    refine (AllReadyH.cons (o := ⟨none, .store 26 (.tmp 8) (.tmp 30), _, _, _, none⟩) rfl (fun K hK => ?_) AllReadyH.nil)
    (first | (have h2 := (Ent.swap (a := m6) (b := [_, _]) hO).front 1 rfl; obtain ⟨⟨z0, z1, z2⟩, hU⟩ := h2.unpack; refine step_storeW hU 0 rfl (by rfl) (by rfl) (by rfl) (xs := [.bool false, .string ⟨#[]⟩, .slice a6 0 c6]) (by rfl) Tryd.sizeOf26 rfl (by simp [Value.oneCell']) rfl ?_; intro w7 hS8; simp only [List.set_cons_zero, List.set_cons_succ, List.cons_append, List.append_eq, List.nil_append, List.eraseIdx_cons_succ, List.eraseIdx_cons_zero] at hS8; have hK8 := K_A hK6 hS8) | (have h2 := Ent.swap (a := m6) (b := [_]) hO; obtain ⟨⟨z0, z1, z2⟩, hU⟩ := h2.unpack; refine step_storeW hU 0 rfl (by rfl) (by rfl) (by rfl) (xs := [.bool false, .string ⟨#[]⟩, .slice a6 0 c6]) (by rfl) Tryd.sizeOf26 rfl (by simp [Value.oneCell']) rfl ?_; intro w7 hS8; simp only [List.set_cons_zero, List.set_cons_succ, List.cons_append, List.append_eq, List.nil_append, List.eraseIdx_cons_succ, List.eraseIdx_cons_zero] at hS8; have hK8 := K_B hK6 hS8) | (have h2 := hO; obtain ⟨⟨z0, z1, z2⟩, hU⟩ := h2.unpack; refine step_storeW hU 0 rfl (by rfl) (by rfl) (by rfl) (xs := [.bool false, .string ⟨#[]⟩, .slice a6 0 c6]) (by rfl) Tryd.sizeOf26 rfl (by simp [Value.oneCell']) rfl ?_; intro w7 hS8; simp only [List.set_cons_zero, List.set_cons_succ, List.cons_append, List.append_eq, List.nil_append, List.eraseIdx_cons_succ, List.eraseIdx_cons_zero] at hS8; have hK8 := K_C hK6 hS8))
    refine hK.out _ _ (F1.out _ (hS8.suf sfx)) (fun hS => ?_)
    clear hK K
    try simp only [Act.put, sb, s0, sz]
    refine tV 9 ⟨some 9, .assign (.tmp 31), _, _, _, none⟩ hS ?_
    refine wpAnyH_done (by kernel_rfl) ?_ _
  all_goals
    clear hS hE
    have hE := hS8
    clear hS8
    have F8 := SL.hid (node_knows hE)
    have F8b := SL.hid (node_false hE)
    have F8k := SL.hid (kid_cell hE)
    go_wp2_with (first
      | go_skip
      | (go_at_call 10; refine (HRA.out _ _ _ _ _ _ (hR1.suf sfx) (KB.out.suf sfx) hE).mono ?_; clear hE; rintro e w5 ⟨v, h1, a9, c9, m7, h2, hE⟩; cases h1; cases h2; have K9 := SL.hid (rowEn_knows hE))
      | ((with_reducible (show Go.wpList _ _ _ (Go.Oper.mk _ (.load 4 _) _ _ _ _ :: _) _ _)); refine wpl_loadF rfl rfl rfl (F8b.out _ (hE.suf sfx)) ?_)
      | ((with_reducible (show Go.wpList _ _ _ (Go.Oper.mk _ (.load 24 _) _ _ _ _ :: _) _ _)); refine wpl_loadF rfl rfl rfl (F8k.out _ (hE.suf sfx)) ?_)
      | ((with_reducible (show Go.wpList _ _ _ (Go.Oper.mk _ (.load 26 _) _ _ _ _ :: _) _ _)); refine wpl_loadF rfl rfl rfl (F8.out _ (hE.suf sfx)) ?_)
      | (go_at_call 7; refine (wakes28_any hE).mono ?_; clear hE; rintro e w2 ⟨v, h1, h2, m9, hE⟩; cases h1; cases h2))
    refine bodyPost_ret (results_tmp rfl _ _ _) rfl ?_
    exact ⟨_, rfl, rfl, hE.suf sfx⟩
set_option maxRecDepth 100000 in
set_option maxHeartbeats 8000000 in
attribute [-go_sem] Instr.loadAt in
theorem applies_ok {xs : List En} {cs : List Ch} {t : Tr} (h1 : treeP xs = some t) (h2 : gr28 cs = false) {T : Tr} (hR : apR (entT 6 [] t) cs = (0, T)) (hR2 : rApR (entT 6 [] t) cs = (0, entT 6 [] T)) (hT : Tr.Wf 6 T) (hTl : (entT 6 [] T).length ≤ 1000) {aa ab : Option Addr} {ca cb : Nat} {l : List HProp} {w : World} (hka : Knows l (reads (.slice aa xs.length ca) xs.length (xs.flatMap enC))) (hkb : Knows l (reads (.slice ab cs.length cb) cs.length (cs.flatMap chC))) (hE : Ent l w) :
    Calls Tryd.prog 3 #[.slice aa xs.length ca, .slice ab cs.length cb] w (Ret fun v w' => v = .bool true ∧ Ent l w') := by
  have HT := SL.hid (fun (L : List HProp) (w : World) (hs : l <:+ L) (h : Ent L w) => Tree_good h1 (hka.suf hs) h)
  have HG := SL.hid (fun (L : List HProp) (w : World) (hs : l <:+ L) (h : Ent L w) => Great28_any (hkb.suf hs) h)
  unfold G28Post at HG
  rw [h2] at HG
  obtain ⟨w1, d1, e1, l1, k1, n1, r1⟩ := tree_ents h1
  obtain ⟨l2, k2⟩ := gr28_not.1 h2
  have q2 : ∀ x ∈ cs, x.path.length ≤ 100000 := fun x hx => by have := (k2 x hx).1; omega
  have HLO := SL.hid (fun (L : List HProp) (w : World) (a1 : Option Addr) (c1 : Nat) hk (h : Ent L w) => lOf_any (es := cs) (by omega) (ao := a1) (c := c1) hk h)
  have HA := SL.hid (fun (L : List HProp) (w : World) (v1 : Value) (a1 : Option Addr) (c1 : Nat) hc hk hr (h : Ent L w) => Apply_in w1 (cs := cs) (by omega) (fun x hx => by have := (k1 x hx).2; omega) (fun x hx => ⟨q2 x hx, by have := (k2 x hx).2.2; omega⟩) (kv := v1) (ao := a1) (c := c1) hc (l := L) hk (fun L' w' hs h => may_any (by omega) q2 (Knows.suf hr hs) h) hr h)
  have HRA := SL.hid (fun (L : List HProp) (w : World) (a1 a2 : Option Addr) (c1 c2 : Nat) hk1 hk2 (h : Ent L w) => rApply_any (es := entT 6 [] t) (cs := cs) (by omega) (by omega) (fun x hx => ⟨by have := (k1 x hx).1; omega, by have := (k1 x hx).2; omega⟩) (fun x hx => ⟨q2 x hx, by have := (k2 x hx).2.2; omega⟩) (ae := a1) (ac := a2) (ce := c1) (cc := c2) hk1 hk2 h)
  rw [hR] at HA
  rw [hR2] at HRA
  unfold ApPost at HA
  unfold RaPost at HRA
  unfold TgPost at HT
  simp only [nodeV] at HA
  have KB := SL.hid hkb
  have HEn := SL.hid (fun (L : List HProp) (w : World) (v1 : Value) (hk : KidsAt L v1 T.kids) (h : Ent L w) => Entries_any hT (by decide) hk (by omega) h)
  have HRo := SL.hid (fun (L : List HProp) (w : World) (a1 a2 : Option Addr) (c1 c2 : Nat) hk1 hk2 (h : Ent L w) => Row_same (es := entT 6 [] T) (ao := a1) (bo := a2) (c := c1) (d := c2) (by omega) hk1 hk2 h)
  simp only [nodeV] at HEn
  generalize entT 6 [] T = eT at *
  clear hT hTl
  generalize entT 6 [] t = es at *
  clear hka hkb h1 h2 w1 k1 k2 q2 n1 r1 d1 e1 l1 l2 hR hR2
  go_enter Tryd.func3, Tryd.ntmps3
  go_wp2_with (first
    | go_skip
    | (go_at_call 5; refine (HT.out _ _ sfx hE).mono ?_; clear hE; rintro e w2 ⟨v, h1, m1, ka, kc, ea, ec, h2, hE, hK1, hR1⟩; cases h1; cases h2)
    | (go_at_call 6; refine (HG.out _ _ sfx hE).mono ?_; clear hE; rintro e w2 ⟨v, h1, h2, hE⟩; cases h1; cases h2)
    | ((with_reducible (show Go.wpList _ _ _ (Go.Oper.mk _ (.alloc 26) _ _ _ _ :: _) _ _)); refine wpl_alloc hE rfl rfl (by simp [go_sem]; rfl) ?_; clear hE; intro b w hE; simp only [Act.eval, Act.put, List.setIfInBounds_toArray, List.set_cons_zero, List.set_cons_succ, getD_lit, List.getD_cons_succ, List.getD_cons_zero, Value.cells] at hE)
    | ((with_reducible (show Go.wpList _ _ _ (Go.Oper.mk _ (.store 26 (.tmp 5) _) _ _ _ _ :: _) _ _)); refine wpl_storeW hE 0 rfl rfl rfl (xs := [_, _, _]) rfl rfl Tryd.sizeOf26 rfl (by simp [Value.oneCell']) rfl ?_; clear hE; intro w hE; simp only [List.set_cons_zero] at hE; have F1 := SL.hid (node_knows hE)))
  have hO := hE.drew
  refine wp_region_held_drew (S := (fun w' => ((Instr.loadAt 26 (.pointer (some ⟨b, 0, none⟩))).run Tryd.prog w' = .ok (.agg #[.bool t.dir, .string ⟨t.data.toArray⟩, .slice ka t.kids.length kc]) w'))) (by kernel_rfl) (F1.out _ (hO.suf sfx)) (fun hS => ?_)
  refine tL 0 ⟨some 26, .load 26 (.tmp 5), _, _, _, none⟩ hS ?_
  refine tV 1 ⟨some 27, .move (.tmp 1), _, _, _, none⟩ hS ?_
  refine wpAnyH_ready (rs := [2, 7]) (by kernel_rfl) (by simp) ?_
  refine (AllReadyH.cons (o := ⟨some 28, .call { callee := .value (.func 9), args := #[.tmp 27], argTypes := #[23] }, _, _, _, none⟩) rfl (fun K hK => ?_) (AllReadyH.cons (o := ⟨some 8, .alloc 26, _, _, _, none⟩) rfl (fun K hK => ?_) AllReadyH.nil))
  focus
    (go_simp; refine (HLO.out _ _ _ _ (KB.out.suf sfx) hO).mono ?_; clear hO; rintro e w5 ⟨v, h1, a5, c5, h2, hO⟩; cases h1; cases h2; have K5 := SL.hid (row_knows hO); have cK5 := SL.hid (row_capQ hO 0 rfl))
    refine hK.out _ _ (F1.out _ (hO.suf sfx)) (fun hS => ?_)
    clear hK K
    try simp only [Act.put, sb, s0, sz]
    refine wpAnyH_ready (rs := [3, 7]) (by kernel_rfl) (by simp) ?_
    refine (AllReadyH.cons (o := ⟨some 29, .call { callee := .value (.func 8), args := #[.tmp 26, .tmp 28], argTypes := #[26, 34] }, _, _, _, none⟩) rfl (fun K hK => ?_) (AllReadyH.cons (o := ⟨some 8, .alloc 26, _, _, _, none⟩) rfl (fun K hK => ?_) AllReadyH.nil))
    focus
      (go_simp; refine (HA.out _ _ _ _ _ cK5.out (hK1.suf sfx) (K5.out.suf sfx) hO).mono ?_; clear hO; rintro e w5 ⟨v, h1, m6, a6, c6, h2, hO, hK6⟩; cases h1; cases h2)
      refine hK.out _ _ (F1.out _ (hO.suf sfx)) (fun hS => ?_)
      clear hK K
      try simp only [Act.put, sb, s0, sz]
      refine tV 4 ⟨some 25, .move (.tmp 29), _, _, _, none⟩ hS ?_
      refine tV 5 ⟨some 30, .extract (.tmp 25) 0, _, _, _, none⟩ hS ?_
      refine tV 6 ⟨some 31, .extract (.tmp 25) 1, _, _, _, none⟩ hS ?_
      refine wpAnyH_ready (rs := [7]) (by kernel_rfl) (by simp) ?_
      refine (AllReadyH.cons (o := ⟨some 8, .alloc 26, _, _, _, none⟩) rfl (fun K hK => ?_) AllReadyH.nil)
      (go_simp; replace hO := anyN_of (hO.alloc (.cells #[.bool false, .string ⟨#[]⟩, .slice none 0 0] 26)))
      refine hK.out _ _ (F1.out _ (hO.suf sfx)) (fun hS => ?_)
      clear hK K
      try simp only [Act.put, sb, s0, sz]
      refine wpAnyH_ready (rs := [8]) (by kernel_rfl) (by simp) ?_
      refine (AllReadyH.cons (o := ⟨none, .store 26 (.tmp 8) (.tmp 30), _, _, _, none⟩) rfl (fun K hK => ?_) AllReadyH.nil)
      (first | (have h2 := (Ent.swap (a := m6) (b := [_, _]) hO).front 1 rfl; obtain ⟨⟨z0, z1, z2⟩, hU⟩ := h2.unpack; refine step_storeW hU 0 rfl (by rfl) (by rfl) (by rfl) (xs := [.bool T.dir, .string ⟨T.data.toArray⟩, .slice a6 T.kids.length c6]) (by rfl) Tryd.sizeOf26 rfl (by simp [Value.oneCell']) rfl ?_; intro w7 hS8; simp only [List.set_cons_zero, List.set_cons_succ, List.cons_append, List.append_eq, List.nil_append, List.eraseIdx_cons_succ, List.eraseIdx_cons_zero] at hS8; have hK8 := K_A hK6 hS8) | (have h2 := Ent.swap (a := m6) (b := [_]) hO; obtain ⟨⟨z0, z1, z2⟩, hU⟩ := h2.unpack; refine step_storeW hU 0 rfl (by rfl) (by rfl) (by rfl) (xs := [.bool T.dir, .string ⟨T.data.toArray⟩, .slice a6 T.kids.length c6]) (by rfl) Tryd.sizeOf26 rfl (by simp [Value.oneCell']) rfl ?_; intro w7 hS8; simp only [List.set_cons_zero, List.set_cons_succ, List.cons_append, List.append_eq, List.nil_append, List.eraseIdx_cons_succ, List.eraseIdx_cons_zero] at hS8; have hK8 := K_B hK6 hS8) | (have h2 := hO; obtain ⟨⟨z0, z1, z2⟩, hU⟩ := h2.unpack; refine step_storeW hU 0 rfl (by rfl) (by rfl) (by rfl) (xs := [.bool T.dir, .string ⟨T.data.toArray⟩, .slice a6 T.kids.length c6]) (by rfl) Tryd.sizeOf26 rfl (by simp [Value.oneCell']) rfl ?_; intro w7 hS8; simp only [List.set_cons_zero, List.set_cons_succ, List.cons_append, List.append_eq, List.nil_append, List.eraseIdx_cons_succ, List.eraseIdx_cons_zero] at hS8; have hK8 := K_C hK6 hS8))
      refine hK.out _ _ (F1.out _ (hS8.suf sfx)) (fun hS => ?_)
      clear hK K
      try simp only [Act.put, sb, s0, sz]
      refine tV 9 ⟨some 9, .assign (.tmp 31), _, _, _, none⟩ hS ?_
      refine wpAnyH_done (by kernel_rfl) ?_ _
    rotate_right
    focus
      (go_simp; replace hO := anyN_of (hO.alloc (.cells #[.bool false, .string ⟨#[]⟩, .slice none 0 0] 26)))
      refine hK.out _ _ (F1.out _ (hO.suf sfx)) (fun hS => ?_)
      clear hK K
      try simp only [Act.put, sb, s0, sz]
      refine wpAnyH_ready (rs := [3]) (by kernel_rfl) (by simp) ?_
      refine (AllReadyH.cons (o := ⟨some 29, .call { callee := .value (.func 8), args := #[.tmp 26, .tmp 28], argTypes := #[26, 34] }, _, _, _, none⟩) rfl (fun K hK => ?_) AllReadyH.nil)
      (go_simp; refine (HA.out _ _ _ _ _ cK5.out (hK1.suf sfx) (K5.out.suf sfx) hO).mono ?_; clear hO; rintro e w5 ⟨v, h1, m6, a6, c6, h2, hO, hK6⟩; cases h1; cases h2)
      refine hK.out _ _ (F1.out _ (hO.suf sfx)) (fun hS => ?_)
      clear hK K
      try simp only [Act.put, sb, s0, sz]
      refine tV 4 ⟨some 25, .move (.tmp 29), _, _, _, none⟩ hS ?_
      refine tV 5 ⟨some 30, .extract (.tmp 25) 0, _, _, _, none⟩ hS ?_
      refine tV 6 ⟨some 31, .extract (.tmp 25) 1, _, _, _, none⟩ hS ?_
      refine wpAnyH_ready (rs := [8]) (by kernel_rfl) (by simp) ?_
      refine (AllReadyH.cons (o := ⟨none, .store 26 (.tmp 8) (.tmp 30), _, _, _, none⟩) rfl (fun K hK => ?_) AllReadyH.nil)
      (first | (have h2 := (Ent.swap (a := m6) (b := [_, _]) hO).front 1 rfl; obtain ⟨⟨z0, z1, z2⟩, hU⟩ := h2.unpack; refine step_storeW hU 0 rfl (by rfl) (by rfl) (by rfl) (xs := [.bool T.dir, .string ⟨T.data.toArray⟩, .slice a6 T.kids.length c6]) (by rfl) Tryd.sizeOf26 rfl (by simp [Value.oneCell']) rfl ?_; intro w7 hS8; simp only [List.set_cons_zero, List.set_cons_succ, List.cons_append, List.append_eq, List.nil_append, List.eraseIdx_cons_succ, List.eraseIdx_cons_zero] at hS8; have hK8 := K_A hK6 hS8) | (have h2 := Ent.swap (a := m6) (b := [_]) hO; obtain ⟨⟨z0, z1, z2⟩, hU⟩ := h2.unpack; refine step_storeW hU 0 rfl (by rfl) (by rfl) (by rfl) (xs := [.bool T.dir, .string ⟨T.data.toArray⟩, .slice a6 T.kids.length c6]) (by rfl) Tryd.sizeOf26 rfl (by simp [Value.oneCell']) rfl ?_; intro w7 hS8; simp only [List.set_cons_zero, List.set_cons_succ, List.cons_append, List.append_eq, List.nil_append, List.eraseIdx_cons_succ, List.eraseIdx_cons_zero] at hS8; have hK8 := K_B hK6 hS8) | (have h2 := hO; obtain ⟨⟨z0, z1, z2⟩, hU⟩ := h2.unpack; refine step_storeW hU 0 rfl (by rfl) (by rfl) (by rfl) (xs := [.bool T.dir, .string ⟨T.data.toArray⟩, .slice a6 T.kids.length c6]) (by rfl) Tryd.sizeOf26 rfl (by simp [Value.oneCell']) rfl ?_; intro w7 hS8; simp only [List.set_cons_zero, List.set_cons_succ, List.cons_append, List.append_eq, List.nil_append, List.eraseIdx_cons_succ, List.eraseIdx_cons_zero] at hS8; have hK8 := K_C hK6 hS8))
      refine hK.out _ _ (F1.out _ (hS8.suf sfx)) (fun hS => ?_)
      clear hK K
      try simp only [Act.put, sb, s0, sz]
      refine tV 9 ⟨some 9, .assign (.tmp 31), _, _, _, none⟩ hS ?_
      refine wpAnyH_done (by kernel_rfl) ?_ _
  rotate_right
  focus
    (go_simp; replace hO := anyN_of (hO.alloc (.cells #[.bool false, .string ⟨#[]⟩, .slice none 0 0] 26)))
    refine hK.out _ _ (F1.out _ (hO.suf sfx)) (fun hS => ?_)
    clear hK K
    try simp only [Act.put, sb, s0, sz]
    refine wpAnyH_ready (rs := [2]) (by kernel_rfl) (by simp) ?_
    refine (AllReadyH.cons (o := ⟨some 28, .call { callee := .value (.func 9), args := #[.tmp 27], argTypes := #[23] }, _, _, _, none⟩) rfl (fun K hK => ?_) AllReadyH.nil)
    (go_simp; refine (HLO.out _ _ _ _ (KB.out.suf sfx) hO).mono ?_; clear hO; rintro e w5 ⟨v, h1, a5, c5, h2, hO⟩; cases h1; cases h2; have K5 := SL.hid (row_knows hO); have cK5 := SL.hid (row_capQ hO 0 rfl))
    refine hK.out _ _ (F1.out _ (hO.suf sfx)) (fun hS => ?_)
    clear hK K
    try simp only [Act.put, sb, s0, sz]
    refine wpAnyH_ready (rs := [3]) (by kernel_rfl) (by simp) ?_
    refine (AllReadyH.cons (o := ⟨some 29, .call { callee := .value (.func 8), args := #[.tmp 26, .tmp 28], argTypes := #[26, 34] }, _, _, _, none⟩) rfl (fun K hK => ?_) AllReadyH.nil)
    (go_simp; refine (HA.out _ _ _ _ _ cK5.out (hK1.suf sfx) (K5.out.suf sfx) hO).mono ?_; clear hO; rintro e w5 ⟨v, h1, m6, a6, c6, h2, hO, hK6⟩; cases h1; cases h2)
    refine hK.out _ _ (F1.out _ (hO.suf sfx)) (fun hS => ?_)
    clear hK K
    try simp only [Act.put, sb, s0, sz]
    refine tV 4 ⟨some 25, .move (.tmp 29), _, _, _, none⟩ hS ?_
    refine tV 5 ⟨some 30, .extract (.tmp 25) 0, _, _, _, none⟩ hS ?_
    refine tV 6 ⟨some 31, .extract (.tmp 25) 1, _, _, _, none⟩ hS ?_
    refine wpAnyH_ready (rs := [8]) (by kernel_rfl) (by simp) ?_
    refine (AllReadyH.cons (o := ⟨none, .store 26 (.tmp 8) (.tmp 30), _, _, _, none⟩) rfl (fun K hK => ?_) AllReadyH.nil)
    (first | (have h2 := (Ent.swap (a := m6) (b := [_, _]) hO).front 1 rfl; obtain ⟨⟨z0, z1, z2⟩, hU⟩ := h2.unpack; refine step_storeW hU 0 rfl (by rfl) (by rfl) (by rfl) (xs := [.bool T.dir, .string ⟨T.data.toArray⟩, .slice a6 T.kids.length c6]) (by rfl) Tryd.sizeOf26 rfl (by simp [Value.oneCell']) rfl ?_; intro w7 hS8; simp only [List.set_cons_zero, List.set_cons_succ, List.cons_append, List.append_eq, List.nil_append, List.eraseIdx_cons_succ, List.eraseIdx_cons_zero] at hS8; have hK8 := K_A hK6 hS8) | (have h2 := Ent.swap (a := m6) (b := [_]) hO; obtain ⟨⟨z0, z1, z2⟩, hU⟩ := h2.unpack; refine step_storeW hU 0 rfl (by rfl) (by rfl) (by rfl) (xs := [.bool T.dir, .string ⟨T.data.toArray⟩, .slice a6 T.kids.length c6]) (by rfl) Tryd.sizeOf26 rfl (by simp [Value.oneCell']) rfl ?_; intro w7 hS8; simp only [List.set_cons_zero, List.set_cons_succ, List.cons_append, List.append_eq, List.nil_append, List.eraseIdx_cons_succ, List.eraseIdx_cons_zero] at hS8; have hK8 := K_B hK6 hS8) | (have h2 := hO; obtain ⟨⟨z0, z1, z2⟩, hU⟩ := h2.unpack; refine step_storeW hU 0 rfl (by rfl) (by rfl) (by rfl) (xs := [.bool T.dir, .string ⟨T.data.toArray⟩, .slice a6 T.kids.length c6]) (by rfl) Tryd.sizeOf26 rfl (by simp [Value.oneCell']) rfl ?_; intro w7 hS8; simp only [List.set_cons_zero, List.set_cons_succ, List.cons_append, List.append_eq, List.nil_append, List.eraseIdx_cons_succ, List.eraseIdx_cons_zero] at hS8; have hK8 := K_C hK6 hS8))
    refine hK.out _ _ (F1.out _ (hS8.suf sfx)) (fun hS => ?_)
    clear hK K
    try simp only [Act.put, sb, s0, sz]
    refine tV 9 ⟨some 9, .assign (.tmp 31), _, _, _, none⟩ hS ?_
    refine wpAnyH_done (by kernel_rfl) ?_ _
  all_goals
    clear hS hE
    have hE := hS8
    clear hS8
    have F8 := SL.hid (node_knows hE)
    have F8b := SL.hid (node_false hE)
    have F8k := SL.hid (kid_cell hE)
    go_wp2_with (first
      | go_skip
      | (go_at_call 10; refine (HRA.out _ _ _ _ _ _ (hR1.suf sfx) (KB.out.suf sfx) hE).mono ?_; clear hE; rintro e w5 ⟨v, h1, a9, c9, m7, h2, hE⟩; cases h1; cases h2; have K9 := SL.hid (rowEn_knows hE))
      | ((with_reducible (show Go.wpList _ _ _ (Go.Oper.mk _ (.load 4 _) _ _ _ _ :: _) _ _)); refine wpl_loadF rfl rfl rfl (F8b.out _ (hE.suf sfx)) ?_)
      | ((with_reducible (show Go.wpList _ _ _ (Go.Oper.mk _ (.load 24 _) _ _ _ _ :: _) _ _)); refine wpl_loadF rfl rfl rfl (F8k.out _ (hE.suf sfx)) ?_)
      | ((with_reducible (show Go.wpList _ _ _ (Go.Oper.mk _ (.load 26 _) _ _ _ _ :: _) _ _)); refine wpl_loadF rfl rfl rfl (F8.out _ (hE.suf sfx)) ?_)
      | (go_at_call 12; refine (HEn.out _ _ _ (hK8.suf sfx) hE).mono ?_; clear hE; rintro e w5 ⟨v, h1, a2, c2, m2, h2, hE⟩; cases h1; cases h2; have K2 := SL.hid (rowEn_knows hE))
      | (go_at_call 11; refine (HRo.out _ _ _ _ _ _ (K2.out.suf sfx) (K9.out.suf sfx) hE).mono ?_; clear hE; rintro e w5 ⟨v, h1, h2, hE⟩; cases h1; cases h2)
      | (go_at_call 7; refine (wakes28_any hE).mono ?_; clear hE; rintro e w2 ⟨v, h1, h2, m9, hE⟩; cases h1; cases h2))
    refine bodyPost_ret (results_tmp rfl _ _ _) rfl ?_
    exact ⟨_, rfl, rfl, hE.suf sfx⟩
theorem DiffApplies_any {xs : List En} {cs : List Ch} {aa ab : Option Addr} {ca cb : Nat} {l : List HProp} {w : World} (hka : Knows l (reads (.slice aa xs.length ca) xs.length (xs.flatMap enC))) (hkb : Knows l (reads (.slice ab cs.length cb) cs.length (cs.flatMap chC))) (hE : Ent l w) :
    Calls Tryd.prog 3 #[.slice aa xs.length ca, .slice ab cs.length cb] w (Ret fun v w' => v = .bool true ∧ Ent l w') := by
  cases h1 : treeP xs with
  | none => exact applies_not (by rw [h1]; rfl) rfl (.inl rfl) hka hkb hE
  | some t =>
    cases h2 : gr28 cs with
    | true => exact applies_not rfl h2 (.inr rfl) hka hkb hE
    | false =>
      obtain ⟨w1, d1, e1, l1, k1, n1, r1⟩ := tree_ents h1
      obtain ⟨l2, k2⟩ := gr28_not.1 h2
      obtain ⟨s1, s2, s3⟩ := ap_same (es := entT 6 [] t) (cs := cs) n1 (by omega)
      by_cases h0 : (apR (entT 6 [] t) cs).1 = 0
      · obtain ⟨q1, q2, q3⟩ := s3 h0
        exact applies_ok h1 h2 (T := (apR (entT 6 [] t) cs).2) (by rw [← h0]) (by rw [← q2, ← h0, s1]) q1 q3 hka hkb hE
      · exact applies_err h1 h2 (er := (apR (entT 6 [] t) cs).1) (ol := (rApR (entT 6 [] t) cs).2) (by rw [← s2 h0]) (by rw [s1]) h0 hka hkb hE
theorem DiffApplies_in {xs : List En} {cs : List Ch} {aa ab : Option Addr} {ca cb : Nat} {W : World} (hka : Knows [rest W fun _ => False] (reads (.slice aa xs.length ca) xs.length (xs.flatMap enC))) (hkb : Knows [rest W fun _ => False] (reads (.slice ab cs.length cb) cs.length (cs.flatMap chC))) :
    Calls Tryd.prog 3 #[.slice aa xs.length ca, .slice ab cs.length cb] W (Ret fun v w' => v = .bool true ∧ Ent [rest W fun _ => False] w') :=
  DiffApplies_any hka hkb (Ent.start W)
end Go.Proofs.YtljfkejkohmimaaDoor
namespace Go.Proofs.YtljfkejkohmimaaDoor
open Go.RowKit Go.SL Go.ChangeShapes Go.WideShapes Go.Deep

set_option maxRecDepth 100000 in
theorem open_ens {H : Type} {enc : TypeId × Value → H} {w : World} {held : Bool} {r : Reach} {b0 : Nat} {v : Value} {d : DataW H} {ps : List MemPlace}
    (hval : Value.okWide Tryd.prog w r b0 22 v) (h : DataW.Trod enc Tryd.prog w 0 (fun _ => true) held 22 v d ps) :
    ∃ (ao : Option Addr) (c : Nat) (xs : List En), v = .slice ao xs.length c ∧ xs.length ≤ c ∧ c ≤ maxLen ∧ (∀ x ∈ xs, True) ∧ reads v xs.length (xs.flatMap enC) w :=
  open_row Tryd.underlying22 enC (fun _ => True) enC_len (by omega) (by kernel_rfl) hval h (fun m cs y hl hy => by
    obtain ⟨ys, n, _, _, _, hyl, hg⟩ := DataW.trod_struct Tryd.underlying53 hy
    match cs, hl with
    | [c0, c1, c2], _ =>
      have g0 := hg 0 _ rfl
      have g1 := hg 1 _ rfl
      have g2 := hg 2 _ rfl
      match ys, hyl with
      | [y0, y1, y2], _ =>
        obtain ⟨a, q0, _, _⟩ := DataW.trod_string Tryd.underlying9 (show DataW.trod enc Tryd.prog w 0 (fun _ => true) held n 9 [c0] = some y0 from g0)
        obtain ⟨b, q1, _⟩ := DataW.trod_bool Tryd.underlying4 (show DataW.trod enc Tryd.prog w 0 (fun _ => true) held n 4 [c1] = some y1 from g1)
        obtain ⟨c, q2, _, _⟩ := DataW.trod_string Tryd.underlying9 (show DataW.trod enc Tryd.prog w 0 (fun _ => true) held n 9 [c2] = some y2 from g2)
        simp only [List.cons.injEq, and_true] at q0 q1 q2
        subst q0 q1 q2
        exact ⟨⟨a.data.toList, b, c.data.toList⟩, trivial, rfl⟩)
set_option maxRecDepth 100000 in
theorem open_rcs {H : Type} {enc : TypeId × Value → H} {w : World} {held : Bool} {r : Reach} {b0 : Nat} {v : Value} {d : DataW H} {ps : List MemPlace}
    (hval : Value.okWide Tryd.prog w r b0 23 v) (h : DataW.Trod enc Tryd.prog w 0 (fun _ => true) held 23 v d ps) :
    ∃ (ao : Option Addr) (c : Nat) (xs : List Ch), v = .slice ao xs.length c ∧ xs.length ≤ c ∧ c ≤ maxLen ∧ (∀ x ∈ xs, True) ∧ reads v xs.length (xs.flatMap chC) w :=
  open_row Tryd.underlying23 chC (fun _ => True) chC_len (by omega) (by kernel_rfl) hval h (fun m cs y hl hy => by
    obtain ⟨ys, n, _, _, _, hyl, hg⟩ := DataW.trod_struct Tryd.underlying51 hy
    match cs, hl with
    | [c0, c1, c2, c3, c4, c5, c6], _ =>
      have g0 := hg 0 _ rfl
      have g1 := hg 1 _ rfl
      have g2 := hg 2 _ rfl
      match ys, hyl with
      | [y0, y1, y2], _ =>
        obtain ⟨a, q0, _, _⟩ := DataW.trod_string Tryd.underlying9 (show DataW.trod enc Tryd.prog w 0 (fun _ => true) held n 9 [c0] = some y0 from g0)
        obtain ⟨zs1, n1, _, _, _, hzl1, hz1⟩ := DataW.trod_struct Tryd.underlying49 (show DataW.trod enc Tryd.prog w 0 (fun _ => true) held n 49 [c1, c2, c3] = some y1 from g1)
        have z10 := hz1 0 _ rfl
        have z11 := hz1 1 _ rfl
        have z12 := hz1 2 _ rfl
        match zs1, hzl1 with
        | [u10, u11, u12], _ =>
        obtain ⟨t1, r10, _⟩ := DataW.trod_bool Tryd.underlying4 (show DataW.trod enc Tryd.prog w 0 (fun _ => true) held n1 4 [c1] = some u10 from z10)
        obtain ⟨d1, r11, _⟩ := DataW.trod_bool Tryd.underlying4 (show DataW.trod enc Tryd.prog w 0 (fun _ => true) held n1 4 [c2] = some u11 from z11)
        obtain ⟨s1, r12, _, _⟩ := DataW.trod_string Tryd.underlying9 (show DataW.trod enc Tryd.prog w 0 (fun _ => true) held n1 9 [c3] = some u12 from z12)
        obtain ⟨zs2, n2, _, _, _, hzl2, hz2⟩ := DataW.trod_struct Tryd.underlying49 (show DataW.trod enc Tryd.prog w 0 (fun _ => true) held n 49 [c4, c5, c6] = some y2 from g2)
        have z20 := hz2 0 _ rfl
        have z21 := hz2 1 _ rfl
        have z22 := hz2 2 _ rfl
        match zs2, hzl2 with
        | [u20, u21, u22], _ =>
        obtain ⟨t2, r20, _⟩ := DataW.trod_bool Tryd.underlying4 (show DataW.trod enc Tryd.prog w 0 (fun _ => true) held n2 4 [c4] = some u20 from z20)
        obtain ⟨d2, r21, _⟩ := DataW.trod_bool Tryd.underlying4 (show DataW.trod enc Tryd.prog w 0 (fun _ => true) held n2 4 [c5] = some u21 from z21)
        obtain ⟨s2, r22, _, _⟩ := DataW.trod_string Tryd.underlying9 (show DataW.trod enc Tryd.prog w 0 (fun _ => true) held n2 9 [c6] = some u22 from z22)
        simp only [List.cons.injEq, and_true] at q0 r10 r11 r12 r20 r21 r22
        subst q0 r10 r11 r12 r20 r21 r22
        exact ⟨⟨a.data.toList, ⟨t1, d1, s1.data.toList⟩, ⟨t2, d2, s2.data.toList⟩⟩, trivial, rfl⟩)
end Go.Proofs.YtljfkejkohmimaaDoor
