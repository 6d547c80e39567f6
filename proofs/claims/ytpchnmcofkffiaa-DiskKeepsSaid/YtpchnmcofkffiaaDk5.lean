/-
  A write of the disk.
-/
import Derived.Test.YtpchnmcofkffiaaDk4
namespace Go.Proofs.Ytpchnmcofkffiaa
open Go.RowKit Go.SL

theorem first_w4 (x y : Int) : firstE [4, x, y] = 4 := by simp [firstE]
theorem first_w2 (y : Int) : firstE [0, 2, y] = 2 := by simp [firstE]
theorem first_w0 : firstE [0, 0, 0] = 0 := by simp [firstE]
theorem first_w02 : firstE [0, 0, 2] = 2 := by simp [firstE]

set_option maxRecDepth 100000 in
theorem Write_not {l : List HProp} {w : World} {p : Nat} {s : DS} {k : Int} {n : Nat} {ab : Option Addr} {cb : Nat} (e1 e2 e3 e : Int) (h1 : s.powerE = e1) (h2 : s.hasE k = e2) (h3 : unlessE ((n : Int) == 512) 2 = e3) (he : firstE [e1, e2, e3] = e) (hne : e ≠ 0) (hE : Ent (disk p s :: l) w) :
    Calls Try.prog 40 #[.pointer (some ⟨p, 0, none⟩), .int .i64 k, .slice ab n cb] w (Ret fun v w' => v = .int .i64 e ∧ Ent (disk p s :: l) w') := by
  have H1 := SL.hid h1
  have H2 := SL.hid h2
  have H3 := SL.hid h3
  have He := SL.hid he
  clear h1 h2 h3 he
  have hne' : (e != 0) = true := by simpa using hne
  go_enter Try.func40, Try.ntmps40
  go_wp2_with (first
    | go_skip
    | (go_at_call 72; have H := power_is H1.out hE; refine H.mono ?_; clear H; rintro e w2 ⟨v, rfl, rfl, hE⟩)
    | (go_at_call 78; refine (has_is H2.out hE).mono ?_; rintro e w2 ⟨rfl, rfl⟩)
    | (go_at_call 76; refine (unless_is _ _ _ H3.out _).mono ?_; rintro e w2 ⟨rfl, rfl⟩)
    | (go_at_call 74; have H := first_3e (c := 3) (x := e1) (y := e2) (z := e3) e He.out (hE.alloc _); refine H.mono ?_; clear H; rintro e w2 ⟨rfl, rfl⟩; replace hE := (hE.alloc (.cells #[.int .i64 e1, .int .i64 e2, .int .i64 e3] 34)).tail))
  go_ret
  exact ⟨_, rfl, rfl, hE⟩

set_option maxRecDepth 100000 in
theorem Write_gone {l : List HProp} {w : World} {p : Nat} {s : DS} {k : Int} {ab : Option Addr} {cb : Nat} (hg : s.good) (hd : s.dead = false) (hk : 0 ≤ k ∧ k < s.on.length) (h0 : s.left = 0) (hE : Ent (disk p s :: l) w) :
    Calls Try.prog 40 #[.pointer (some ⟨p, 0, none⟩), .int .i64 k, .slice ab 512 cb] w (Ret fun v w' => v = .int .i64 4 ∧ Ent (disk p (s.goes s.keep) :: l) w') := by
  have H1 := SL.hid (powerE_0 hd)
  have H2 := SL.hid (hasE_0 hk)
  have H0 := SL.hid h0
  clear hd h0
  have hn : ((512 : Int) == 512) = true := rfl
  go_enter Try.func40, Try.ntmps40
  go_wp2_with (first
    | go_skip
    | (go_at_call 72; have H := power_is H1.out hE; refine H.mono ?_; clear H; rintro e w2 ⟨v, rfl, rfl, hE⟩)
    | (go_at_call 78; refine (has_is H2.out hE).mono ?_; rintro e w2 ⟨rfl, rfl⟩)
    | (go_at_call 76; refine (unless_is _ _ _ (unlessE_t _) _).mono ?_; rintro e w2 ⟨rfl, rfl⟩)
    | (go_at_call 74; have H := first_3e (c := 3) (x := 0) (y := 0) (z := 0) 0 first_w0 (hE.alloc _); refine H.mono ?_; clear H; rintro e w2 ⟨rfl, rfl⟩; replace hE := (hE.alloc (.cells #[.int .i64 0, .int .i64 0, .int .i64 0] 34)).tail)
    | (go_at_call 73; have H := act_gone hg H0.out hE; refine H.mono ?_; clear H; rintro e w2 ⟨v, rfl, rfl, hE2⟩))
  go_ret
  exact ⟨_, rfl, rfl, hE2⟩

theorem info_write : elemInfo Try.prog 116 = some (some 513, 513, 520) := by kernel_rfl
theorem info_sector : elemInfo Try.prog 114 = some (some 512, 512, 512) := by kernel_rfl

theorem run_errs3 (x y z : Int) (w : World) : (Instr.buildSlice 151 3 #[(0, .int .i64 x), (1, .int .i64 y), (2, .int .i64 z)]).run Try.prog w = .ok (.slice (some ⟨w.heap.size, 0, none⟩) 3 3) (w.alloc (.cells #[.int .i64 x, .int .i64 y, .int .i64 z] 34)) := by
  simp [go_sem]

theorem run_write1 (x : Wt) (h : x.b.length = 512) (w : World) : (Instr.buildSlice 110 1 #[(0, .agg (wcells x).toArray)]).run Try.prog w = .ok (.slice (some ⟨w.heap.size, 0, none⟩) 1 1) (w.alloc (.cells (wcells x).toArray 116)) :=
  run_buildSlice1 Try.underlying110 (by kernel_rfl) Try.sizeOf116 (by decide) (by decide) _ (wcells_len x h)

theorem run_write2 (x : Wt) (h : x.b.length = 512) (w : World) : (Instr.build 116 #[(0, .agg (bvals x.b).toArray), (1, .int .i64 (x.at_ : Nat))]).run Try.prog w = .ok (.agg (wcells x).toArray) w := by
  obtain ⟨z, hz, hzr⟩ := run_zero (P := Try.prog) (t := 116) (n := 513) (by kernel_rfl)
  have hf := fun pl => fill_two (place := pl) z.cells (bvals x.b) [.int .i64 (x.at_ : Nat)] (.agg (bvals x.b).toArray) (.int .i64 (x.at_ : Nat)) rfl rfl
  simp only [Instr.build, Sem.run_bind, hzr, Result.andThen_ok, run_underlying Try.underlying116]
  have hm : (Array.mapM (fun (f : Field) => (do pure (f.offset, ← sizeOf f.type) : Sem (Nat × Nat))) #[{ name := "sector", type := 114, offset := 0, embedded := true, tag := "", pkgPath := "armarium/disk", byteOffset := 0 },
      { name := "at", type := 3, offset := 512, embedded := false, tag := "", pkgPath := "armarium/disk", byteOffset := 512 }]).run Try.prog w = .ok #[(0, 512), (512, 1)] w := by
    simp [go_sem]
  rw [hm]
  simp only [Result.andThen_ok]
  rw [hf _ (by simp [bvals_length, h]) (by simp [bvals_length, h]) (by simp [bvals_length, h, hz])]
  rfl

attribute [-go_sem] Instr.loadAt Instr.build Instr.buildSlice in
set_option maxRecDepth 100000 in
set_option maxHeartbeats 1000000 in
theorem Write_done {l : List HProp} {w : World} {p : Nat} {s : DS} {k : Nat} {b : List UInt8} {ab : Option Addr} {cb : Nat} (hg : s.good) (hd : s.dead = false) (hk : k < s.on.length) (hb : b.length = 512) (h0 : s.left ≠ 0) (hw : s.wait.length ≤ 1000000)
    (hr : Knows l (reads (.slice ab 512 cb) 512 (bvals b))) (hE : Ent (disk p s :: l) w) :
    Calls Try.prog 40 #[.pointer (some ⟨p, 0, none⟩), .int .i64 k, .slice ab 512 cb] w (Ret fun v w' => v = .int .i64 0 ∧ Ent (disk p { s.acted with wait := s.wait ++ [⟨b, k⟩] } :: l) w') := by
  have H1 := SL.hid (powerE_0 hd)
  have H2 := SL.hid (hasE_0 (s := s) (k := (k : Int)) ⟨by omega, by omega⟩)
  have H0 := SL.hid h0
  have Hg := SL.hid hg
  have Ha := SL.hid (fun w (h : Ent (disk p s :: l) w) => act_done hg h0 h)
  have e1 : s.wait = s.acted.wait := rfl
  obtain ⟨b0, off, rfl, hc0⟩ := reads_form (hr _ hE.tail) (by omega) (by rw [bvals_length]; omega)
  have Hr := SL.hid hr
  have Hb := SL.hid hb
  have hbs := run_errs3
  have hw1 := run_write1 ⟨b, k⟩ hb
  have hw2 := run_write2 ⟨b, k⟩ hb
  have hat : ∀ w, (Instr.arrayAt 114 (.slice (some ⟨b0, off, none⟩) 512 cb)).run Try.prog w = .ok (.pointer (some ⟨b0, off, none⟩)) w := fun w => by simp [Instr.arrayAt, run_underlying Try.underlying114]
  clear hd h0 hr hb hg hc0
  rw [e1] at hw ⊢
  generalize s.acted = s' at *
  clear e1
  go_enter Try.func40, Try.ntmps40
  go_wp2_with (first
    | go_skip
    | (go_at_call 72; have H := power_is H1.out hE; refine H.mono ?_; clear H; rintro e w2 ⟨v, rfl, rfl, hE⟩)
    | (go_at_call 78; refine (has_is H2.out hE).mono ?_; rintro e w2 ⟨rfl, rfl⟩)
    | (go_at_call 76; refine (unless_is _ _ _ (unlessE_t _) _).mono ?_; rintro e w2 ⟨rfl, rfl⟩)
    | (go_at_call 74; have H := first_3e (c := 3) (x := 0) (y := 0) (z := 0) 0 first_w0 (hE.alloc _); refine H.mono ?_; clear H; rintro e w2 ⟨rfl, rfl⟩; replace hE := (hE.alloc (.cells #[.int .i64 0, .int .i64 0, .int .i64 0] 34)).tail)
    | (go_at_call 73; have H := Ha.out _ hE; refine H.mono ?_; clear H; rintro e w2 ⟨v, rfl, rfl, hE2⟩; clear hE Ha; obtain ⟨ao, c, aw, d, hE⟩ := disk_open hE2; clear hE2))
  have hED := hE.drew
  have hL1 := run_load1 (P := Try.prog) hED 0 rfl (t := 110) (by simp [go_sem]) (off := 3) rfl
  have hL3 := fun o => run_load1 (P := Try.prog) ((hE.alloc o).drew) 1 rfl (t := 110) (by simp [go_sem]) (off := 3) rfl
  have hL2 : (Instr.loadAt 114 (.pointer (some ⟨b0, off, none⟩))).run Try.prog w2.drew = .ok (.agg (bvals b).toArray) w2.drew := by
    obtain ⟨_, _, e, _, hc⟩ := Hr.out _ hED.tail.tail.tail
    cases e
    exact run_loadR Try.isAgg114 Try.sizeOf114 (by rw [bvals_length]; exact Hb.out) (hc _ rfl)
  clear hbs
  have hcl : ∀ j u, (wcells ⟨b, k⟩)[j]? = some u → (wcells ⟨b, k⟩).toArray[0 + j]? = some u := fun j u hu => by simpa using hu
  go_region_law ((refine step_appendG ((hE.alloc _).drew) 3 rfl (by rfl) (by rfl) (by rfl) (by rfl) Try.underlying110 info_write (by decide) (m := 1) (news := wcells ⟨b, k⟩) (reads_pt ((hE.alloc _).drew) 0 rfl (off := 0) hcl) (by rw [wcells_len _ Hb.out]) (wcells_one _) (by omega) (by omega) ?_); (intro ao' c' w3 hE3; have d0 : w3.cell? ⟨p, 3, none⟩ = some (.slice aw s'.wait.length d) := hE3.cell 1 rfl 3; have d1 : w3.frozen? ⟨p, 3, none⟩ = false := hE3.frozen 1 rfl 3))
  all_goals
    go_wp2
    go_ret
    have hE4 := (hE3.setCell 1 rfl 3 (.slice ao' (s'.wait.length + 1) c')).tail
    have e1 : s'.wait.flatMap wcells ++ wcells ⟨b, k⟩ = (s'.wait ++ [(⟨b, k⟩ : Wt)]).flatMap wcells := by simp
    have e2 : s'.wait.length + 1 = (s'.wait ++ [(⟨b, k⟩ : Wt)]).length := by simp
    rw [e1] at hE4
    simp only [List.set_cons_succ, List.set_cons_zero, List.setIfInBounds_toArray] at hE4
    rw [e2] at hE4 ⊢
    exact ⟨_, rfl, rfl, disk_close (s := { s' with wait := s'.wait ++ [⟨b, k⟩] }) hE4⟩

theorem write_dead {s : DS} (hd : s.dead = true) (k : Int) (b : List UInt8) : s.writeE k b.length = 4 ∧ s.writeS k b = s := by
  unfold DS.writeE DS.writeS; simp [hd]
theorem write_bad {s : DS} (hd : s.dead = false) {k : Int} {b : List UInt8} (h : ¬(0 ≤ k ∧ k < s.on.length ∧ b.length = 512)) : s.writeE k b.length = 2 ∧ s.writeS k b = s := by
  unfold DS.writeE DS.writeS
  rw [hd, if_neg h, if_neg h]; exact ⟨rfl, rfl⟩
theorem write_gone {s : DS} (hd : s.dead = false) {k : Int} {b : List UInt8} (h : 0 ≤ k ∧ k < s.on.length ∧ b.length = 512) (h0 : s.left = 0) : s.writeE k b.length = 4 ∧ s.writeS k b = s.goes s.keep := by
  unfold DS.writeE DS.writeS
  rw [hd, if_pos h, if_pos h, if_pos h0, if_pos h0]; exact ⟨rfl, rfl⟩
theorem write_done {s : DS} (hd : s.dead = false) {k : Int} {b : List UInt8} (h : 0 ≤ k ∧ k < s.on.length ∧ b.length = 512) (h0 : s.left ≠ 0) : s.writeE k b.length = 0 ∧ s.writeS k b = { s.acted with wait := s.wait ++ [⟨b, k.toNat⟩] } := by
  unfold DS.writeE DS.writeS
  rw [hd, if_pos h, if_pos h, if_neg h0, if_neg h0]; exact ⟨rfl, rfl⟩

theorem Write_any {l : List HProp} {w : World} {p : Nat} {s : DS} {k : Int} {b : List UInt8} {ab : Option Addr} {cb n : Nat} (hn : n = b.length) (hg : s.good) (hw : s.wait.length ≤ 1000000)
    (hr : Knows l (reads (.slice ab n cb) n (bvals b))) (hE : Ent (disk p s :: l) w) :
    Calls Try.prog 40 #[.pointer (some ⟨p, 0, none⟩), .int .i64 k, .slice ab n cb] w (Ret fun v w' => v = .int .i64 (s.writeE k n) ∧ Ent (disk p (s.writeS k b) :: l) w') := by
  subst hn
  cases hd : s.dead with
  | true =>
    rw [(write_dead hd k b).1, (write_dead hd k b).2]
    exact Write_not 4 _ _ 4 (powerE_4 hd) rfl rfl (first_w4 _ _) (by decide) hE
  | false =>
    by_cases hk : 0 ≤ k ∧ k < s.on.length
    · by_cases hb : b.length = 512
      · by_cases h0 : s.left = 0
        · obtain ⟨e1, e2⟩ := write_gone hd ⟨hk.1, hk.2, hb⟩ h0
          rw [e1, e2, hb]
          exact Write_gone hg hd hk h0 hE
        · obtain ⟨e1, e2⟩ := write_done hd ⟨hk.1, hk.2, hb⟩ h0
          rw [e1, e2]
          rw [hb] at hr ⊢
          obtain ⟨m, rfl⟩ := Int.eq_ofNat_of_zero_le hk.1
          exact Write_done hg hd (by omega) hb h0 hw hr hE
      · obtain ⟨e1, e2⟩ := write_bad (b := b) (k := k) hd (fun h => hb h.2.2)
        rw [e1, e2]
        have e : ((b.length : Int) == 512) = false := by simpa using (by omega : ¬ (b.length : Int) = 512)
        exact Write_not 0 0 2 2 (powerE_0 hd) (hasE_0 hk) (by rw [e, unlessE_f]) first_w02 (by decide) hE
    · obtain ⟨e1, e2⟩ := write_bad (b := b) (k := k) hd (fun h => hk ⟨h.1, h.2.1⟩)
      rw [e1, e2]
      exact Write_not 0 2 _ 2 (powerE_0 hd) (hasE_2 hk) rfl (first_w2 _) (by decide) hE

set_option maxRecDepth 100000 in
theorem Write_nil {l : List HProp} {w : World} {k : Int} (hE : Ent l w) :
    Calls Try.prog 40 #[.pointer none, .int .i64 k, .slice none 0 0] w (Ret fun v w' => v = .int .i64 1 ∧ Ent l w') := by
  have H3 := SL.hid (show firstE [1, 2, 2] = 1 by simp [firstE])
  go_enter Try.func40, Try.ntmps40
  go_wp2_with (first
    | go_skip
    | (go_at_call 72; have H := power_nil _ _ hE; refine H.mono ?_; clear H; rintro e w2 ⟨v, rfl, rfl, hE⟩)
    | (go_at_call 78; refine (has_nil _ _).mono ?_; rintro e w2 ⟨rfl, rfl⟩)
    | (go_at_call 76; refine (unless_is _ _ _ (unlessE_f _) _).mono ?_; rintro e w2 ⟨rfl, rfl⟩)
    | (go_at_call 74; have H := first_3e (c := 3) (x := 1) (y := 2) (z := 2) 1 H3.out (hE.alloc _); refine H.mono ?_; clear H; rintro e w2 ⟨rfl, rfl⟩; replace hE := (hE.alloc (.cells #[.int .i64 1, .int .i64 2, .int .i64 2] 34)).tail))
  go_ret
  exact ⟨_, rfl, rfl, hE⟩
end Go.Proofs.Ytpchnmcofkffiaa
