/-
  Two rows side by side: diff.both, its instance 30. (Printed by gen_dqd.py.)
-/
import Derived.Test.YtcpgelpajppgdaaDoorDiffUF4
namespace Go.Proofs.YtcpgelpajppgdaaDoor
open Go.RowKit Go.SL

def BoRel30 (N : Nat) (BB : List (Option En × Option En)) (J : List (Option En × Option En) → List HProp → Prop) (L0 : List HProp) (lo mo : Value) (wr : World) : Prop :=
  ∃ (n : Nat) (xs : List En) (ys : List En) (ao bo : Option Addr) (c d : Nat) (done : List (Option En × Option En)) (L : List HProp), n ≤ N ∧ xs.length + ys.length ≤ n ∧ lo = .slice ao xs.length c ∧ mo = .slice bo ys.length d ∧ xs.length ≤ c ∧ ys.length ≤ d ∧
    Knows L0 (reads (.slice ao xs.length c) xs.length (xs.flatMap enC)) ∧ Knows L0 (reads (.slice bo ys.length d) ys.length (ys.flatMap enC)) ∧ (∀ x ∈ xs, (En.path x).length ≤ 100000) ∧ (∀ x ∈ ys, (En.path x).length ≤ 100000) ∧
    done ++ bothB En.path En.path n xs ys = BB ∧ J done L ∧ L0 <:+ L ∧ Ent L wr
set_option maxRecDepth 100000 in
set_option maxHeartbeats 4000000 in
attribute [-go_sem] Instr.loadAt in
theorem both30_any {p1 : Nat} {BB : List (Option En × Option En)} {J : List (Option En × Option En) → List HProp → Prop} {L0 : List HProp} {N : Nat}
    (hdo : ∀ done x y px py L w, (∃ r, done ++ (x, y) :: r = BB) → J done L → L0 <:+ L → Ent L w → ptrE L0 enC x px → ptrE L0 enC y py → Calls Tryd.prog 32 #[px, py, .pointer (some ⟨p1, 0, none⟩)] w (Ret fun _ w' => ∃ L', J (done ++ [(x, y)]) L' ∧ L0 <:+ L' ∧ Ent L' w'))
    {xs : List En} {ys : List En} (hN : xs.length + ys.length ≤ N) (hBB : bothB En.path En.path N xs ys = BB) {ao bo : Option Addr} {c d : Nat} (hc : xs.length ≤ c) (hd : ys.length ≤ d) (hxl : ∀ x ∈ xs, (En.path x).length ≤ 100000) (hyl : ∀ x ∈ ys, (En.path x).length ≤ 100000)
    (hx : Knows L0 (reads (.slice ao xs.length c) xs.length (xs.flatMap enC))) (hy : Knows L0 (reads (.slice bo ys.length d) ys.length (ys.flatMap enC))) {L : List HProp} (hJ : J [] L) (hs : L0 <:+ L) {w : World} (hE : Ent L w) :
    Calls Tryd.prog 30 #[.slice ao xs.length c, .slice bo ys.length d, .func (.func 31) #[] #[], .func (.func 31) #[] #[], .func (.func 32) #[] #[.pointer (some ⟨p1, 0, none⟩)]] w (Ret fun _ w' => ∃ L', J BB L' ∧ L0 <:+ L' ∧ Ent L' w') := by
  have Hdo := SL.hid hdo
  clear hdo
  go_enter Tryd.func30, Tryd.ntmps30
  go_wp2
  go_loopw [0, 1] (fun lo mo wr => BoRel30 N BB J L0 lo mo wr) (fun lo mo _ => lenV lo + lenV mo)
  case atStart => exact ⟨N, xs, ys, ao, bo, c, d, [], L, Nat.le_refl _, hN, rfl, rfl, hc, hd, hx, hy, hxl, hyl, hBB, hJ, hs, hE⟩
  case round =>
    clear hE hJ hs hx hy hxl hyl hc hd hBB hN
    clear ao bo c d xs ys L
    obtain ⟨n, xs, ys, ao, bo, c, d, done, L, hnN, hN, rfl, rfl, hc, hd, hx, hy, hxl, hyl, hBB, hJ, hs, hE⟩ := hrel
    cases xs with
    | nil =>
      cases ys with
      | nil =>
        have hz : done = BB := by
          rw [← hBB]
          cases n <;> simp [bothB]
        subst hz
        clear hBB hx hy
        go_wp2
        refine bodyPost_ret (results_none rfl _ _ _) rfl ?_
        exact ⟨_, rfl, L, hJ, hs, hE⟩
      | cons y ys =>
        obtain ⟨n, rfl⟩ : ∃ n', n = n' + 1 := ⟨n - 1, by simp at hN; omega⟩
        simp only [bothB] at hBB
        simp only [List.length_cons, List.length_nil] at hN hd
        obtain ⟨b_y, oy, rfl, hpy, hry, hsly, hldy⟩ := row_en hd hy (hE.suf hs)
        simp only [List.length_cons, List.length_nil]
        have HX := SL.hid hx
        clear hx hy
        have g1 : (0 : Int) < (ys.length : Int) + 1 := by omega
        have g2 : ¬ ((ys.length : Int) + 1 = 0) := by omega
        go_wp2
        refine wp_region_held_drew (S := (fun _ => True)) (by kernel_rfl) trivial (fun hS => ?_)
        refine tV 0 ⟨some 48, .move (.tmp 1), _, _, _, none⟩ hS ?_
        refine tV 1 ⟨some 49, .indexAddr 22 (.tmp 48) (.const (.int .i64 0)), _, _, _, none⟩ hS ?_
        refine tV 2 ⟨some 50, .move (.tmp 1), _, _, _, none⟩ hS ?_
        refine tV 3 ⟨some 51, .slice 22 (.tmp 50) (some (.const (.int .i64 1))) none none, _, _, _, none⟩ hS ?_
        refine tV 4 ⟨some 12, .assign (.tmp 49), _, _, _, none⟩ hS ?_
        refine tV 5 ⟨some 1, .assign (.tmp 51), _, _, _, none⟩ hS ?_
        refine wpAnyH_done (by kernel_rfl) ?_ _
        all_goals
          clear hS
          replace hE := hE.drew
          go_wp2_with (first
            | go_skip
            | (go_at_call 32; refine (Hdo.out done none (some y) _ _ L _ ⟨_, hBB⟩ hJ hs hE rfl hpy).mono ?_; clear hE; rintro e w5 ⟨v, rfl, L', hJ', hs', hE⟩))
          go_roundw
          case rel => exact ⟨n, [], ys, _, _, _, _, done ++ [(none, (some y))], L', by omega, by (try simp only [List.length_cons, List.length_nil]); omega, rfl, rfl, by (try simp only [List.length_cons, List.length_nil]); omega, by (try simp only [List.length_cons, List.length_nil]); omega, HX.out, hry, hxl, fun z hz => hyl z (by simp [hz]), by rw [List.append_assoc]; exact hBB, hJ', hs', hE⟩
          case measure => simp [lenV] <;> omega
    | cons x xs =>
      cases ys with
      | nil =>
        obtain ⟨n, rfl⟩ : ∃ n', n = n' + 1 := ⟨n - 1, by simp at hN; omega⟩
        simp only [bothB] at hBB
        simp only [List.length_cons, List.length_nil] at hN hc
        obtain ⟨bx, ox, rfl, hpx, hrx, hslx, hldx⟩ := row_en hc hx (hE.suf hs)
        simp only [List.length_cons, List.length_nil]
        have HY := SL.hid hy
        clear hx hy
        have g1 : (0 : Int) < (xs.length : Int) + 1 := by omega
        have g2 : ¬ ((xs.length : Int) + 1 = 0) := by omega
        go_wp2
        refine wp_region_held_drew (S := (fun _ => True)) (by kernel_rfl) trivial (fun hS => ?_)
        refine tV 0 ⟨some 42, .move (.tmp 0), _, _, _, none⟩ hS ?_
        refine tV 1 ⟨some 43, .indexAddr 22 (.tmp 42) (.const (.int .i64 0)), _, _, _, none⟩ hS ?_
        refine tV 2 ⟨some 44, .move (.tmp 0), _, _, _, none⟩ hS ?_
        refine tV 3 ⟨some 45, .slice 22 (.tmp 44) (some (.const (.int .i64 1))) none none, _, _, _, none⟩ hS ?_
        refine tV 4 ⟨some 11, .assign (.tmp 43), _, _, _, none⟩ hS ?_
        refine tV 5 ⟨some 0, .assign (.tmp 45), _, _, _, none⟩ hS ?_
        refine wpAnyH_done (by kernel_rfl) ?_ _
        all_goals
          clear hS
          replace hE := hE.drew
          go_wp2_with (first
            | go_skip
            | (go_at_call 32; refine (Hdo.out done (some x) none _ _ L _ ⟨_, hBB⟩ hJ hs hE hpx rfl).mono ?_; clear hE; rintro e w5 ⟨v, rfl, L', hJ', hs', hE⟩))
          go_roundw
          case rel => exact ⟨n, xs, [], _, _, _, _, done ++ [((some x), none)], L', by omega, by (try simp only [List.length_cons, List.length_nil]); omega, rfl, rfl, by (try simp only [List.length_cons, List.length_nil]); omega, by (try simp only [List.length_cons, List.length_nil]); omega, hrx, HY.out, fun z hz => hxl z (by simp [hz]), hyl, by rw [List.append_assoc]; exact hBB, hJ', hs', hE⟩
          case measure => simp [lenV] <;> omega
      | cons y ys =>
        obtain ⟨n, rfl⟩ : ∃ n', n = n' + 1 := ⟨n - 1, by simp at hN; omega⟩
        simp only [List.length_cons] at hN hc hd
        obtain ⟨bx, ox, rfl, hpx, hrx, hslx, hldx⟩ := row_en hc hx (hE.suf hs)
        obtain ⟨b_y, oy, rfl, hpy, hry, hsly, hldy⟩ := row_en hd hy (hE.suf hs)
        have HO := SL.hid (fun (w : World) (h : Ent L w) => Order_any (p := En.path x) (q := En.path y) (hxl x (by simp)) (hyl y (by simp)) h)
        simp only [List.length_cons]
        have HX := SL.hid hx
        have HY := SL.hid hy
        clear hx hy
        have g1 : (0 : Int) < (xs.length : Int) + 1 := by omega
        have g2 : ¬ ((xs.length : Int) + 1 = 0) := by omega
        have g3 : (0 : Int) < (ys.length : Int) + 1 := by omega
        have g4 : ¬ ((ys.length : Int) + 1 = 0) := by omega
        rcases ord_cases (En.path x) (En.path y) with ⟨ho, h1⟩ | ⟨ho, h1, h2⟩ | ⟨ho, h1, h2⟩
        · simp only [bothB, h1, if_true] at hBB
          rw [ho] at HO
          clear ho h1
          go_wp2
          have hO := hE.drew
          refine wp_region_held_drew (S := (fun w' => ((Instr.loadAt 63 (.pointer (some ⟨bx, ox, none⟩))).run Tryd.prog w' = .ok (.agg (enC x).toArray) w') ∧ ((Instr.loadAt 63 (.pointer (some ⟨b_y, oy, none⟩))).run Tryd.prog w' = .ok (.agg (enC y).toArray) w'))) (by kernel_rfl) ⟨(hldx _ (hO.suf hs)), (hldy _ (hO.suf hs))⟩ (fun hS => ?_)
          refine tV 0 ⟨some 21, .move (.tmp 2), _, _, _, none⟩ hS ?_
          refine tV 1 ⟨some 22, .move (.tmp 0), _, _, _, none⟩ hS ?_
          refine tV 2 ⟨some 23, .indexAddr 22 (.tmp 22) (.const (.int .i64 0)), _, _, _, none⟩ hS ?_
          refine tL 3 ⟨some 24, .load 63 (.tmp 23), _, _, _, none⟩ hS ?_
          refine tV 5 ⟨some 26, .move (.tmp 3), _, _, _, none⟩ hS ?_
          refine tV 6 ⟨some 27, .move (.tmp 1), _, _, _, none⟩ hS ?_
          refine tV 7 ⟨some 28, .indexAddr 22 (.tmp 27) (.const (.int .i64 0)), _, _, _, none⟩ hS ?_
          refine tL 8 ⟨some 29, .load 63 (.tmp 28), _, _, _, none⟩ hS ?_
          refine wpAnyH_ready (rs := [4]) (by kernel_rfl) (by simp) ?_
          refine (AllReadyH.cons (o := ⟨some 25, .call { callee := .value (.tmp 21), args := #[.tmp 24], argTypes := #[63] }, _, _, _, none⟩) rfl (fun K hK => ?_) AllReadyH.nil)
          (go_simp; refine (pathOf_any x hO).mono ?_; clear hO; rintro e w5 ⟨v, rfl, rfl, hO⟩)
          refine hK.out _ _ ⟨(hldx _ (hO.suf hs)), (hldy _ (hO.suf hs))⟩ (fun hS => ?_)
          clear hK K
          try simp only [Act.put, sb, s0, sz]
          refine wpAnyH_ready (rs := [9]) (by kernel_rfl) (by simp) ?_
          refine (AllReadyH.cons (o := ⟨some 30, .call { callee := .value (.tmp 26), args := #[.tmp 29], argTypes := #[63] }, _, _, _, none⟩) rfl (fun K hK => ?_) AllReadyH.nil)
          (go_simp; refine (pathOf_any y hO).mono ?_; clear hO; rintro e w5 ⟨v, rfl, rfl, hO⟩)
          refine hK.out _ _ ⟨(hldx _ (hO.suf hs)), (hldy _ (hO.suf hs))⟩ (fun hS => ?_)
          clear hK K
          try simp only [Act.put, sb, s0, sz]
          refine wpAnyH_ready (rs := [10]) (by kernel_rfl) (by simp) ?_
          refine (AllReadyH.cons (o := ⟨some 31, .call { callee := .value (.func 17), args := #[.tmp 25, .tmp 30], argTypes := #[9, 9] }, _, _, _, none⟩) rfl (fun K hK => ?_) AllReadyH.nil)
          (go_simp; refine (HO.out _ hO).mono ?_; clear hO; rintro e w5 ⟨v, rfl, rfl, hO⟩)
          refine hK.out _ _ ⟨(hldx _ (hO.suf hs)), (hldy _ (hO.suf hs))⟩ (fun hS => ?_)
          clear hK K
          try simp only [Act.put, sb, s0, sz]
          refine tV 11 ⟨some 10, .assign (.tmp 31), _, _, _, none⟩ hS ?_
          refine wpAnyH_done (by kernel_rfl) ?_ _
          all_goals
            clear hS
            have hE := hO
            go_wp2
            refine wp_region_held_drew (S := (fun _ => True)) (by kernel_rfl) trivial (fun hS => ?_)
            refine tV 0 ⟨some 42, .move (.tmp 0), _, _, _, none⟩ hS ?_
            refine tV 1 ⟨some 43, .indexAddr 22 (.tmp 42) (.const (.int .i64 0)), _, _, _, none⟩ hS ?_
            refine tV 2 ⟨some 44, .move (.tmp 0), _, _, _, none⟩ hS ?_
            refine tV 3 ⟨some 45, .slice 22 (.tmp 44) (some (.const (.int .i64 1))) none none, _, _, _, none⟩ hS ?_
            refine tV 4 ⟨some 11, .assign (.tmp 43), _, _, _, none⟩ hS ?_
            refine tV 5 ⟨some 0, .assign (.tmp 45), _, _, _, none⟩ hS ?_
            refine wpAnyH_done (by kernel_rfl) ?_ _
            all_goals
              clear hS
              replace hE := hE.drew
              go_wp2_with (first
                | go_skip
                | (go_at_call 32; refine (Hdo.out done (some x) none _ _ L _ ⟨_, hBB⟩ hJ hs hE hpx rfl).mono ?_; clear hE; rintro e w5 ⟨v, rfl, L', hJ', hs', hE⟩))
              go_roundw
              case rel => exact ⟨n, xs, (y :: ys), _, _, _, _, done ++ [((some x), none)], L', by omega, by (try simp only [List.length_cons, List.length_nil]); omega, rfl, rfl, by (try simp only [List.length_cons, List.length_nil]); omega, by (try simp only [List.length_cons, List.length_nil]); omega, hrx, HY.out, fun z hz => hxl z (by simp [hz]), hyl, by rw [List.append_assoc]; exact hBB, hJ', hs', hE⟩
              case measure => simp [lenV] <;> omega
        · simp only [bothB, h1, h2, if_true, if_false, Bool.false_eq_true] at hBB
          rw [ho] at HO
          clear ho h1 h2
          go_wp2
          have hO := hE.drew
          refine wp_region_held_drew (S := (fun w' => ((Instr.loadAt 63 (.pointer (some ⟨bx, ox, none⟩))).run Tryd.prog w' = .ok (.agg (enC x).toArray) w') ∧ ((Instr.loadAt 63 (.pointer (some ⟨b_y, oy, none⟩))).run Tryd.prog w' = .ok (.agg (enC y).toArray) w'))) (by kernel_rfl) ⟨(hldx _ (hO.suf hs)), (hldy _ (hO.suf hs))⟩ (fun hS => ?_)
          refine tV 0 ⟨some 21, .move (.tmp 2), _, _, _, none⟩ hS ?_
          refine tV 1 ⟨some 22, .move (.tmp 0), _, _, _, none⟩ hS ?_
          refine tV 2 ⟨some 23, .indexAddr 22 (.tmp 22) (.const (.int .i64 0)), _, _, _, none⟩ hS ?_
          refine tL 3 ⟨some 24, .load 63 (.tmp 23), _, _, _, none⟩ hS ?_
          refine tV 5 ⟨some 26, .move (.tmp 3), _, _, _, none⟩ hS ?_
          refine tV 6 ⟨some 27, .move (.tmp 1), _, _, _, none⟩ hS ?_
          refine tV 7 ⟨some 28, .indexAddr 22 (.tmp 27) (.const (.int .i64 0)), _, _, _, none⟩ hS ?_
          refine tL 8 ⟨some 29, .load 63 (.tmp 28), _, _, _, none⟩ hS ?_
          refine wpAnyH_ready (rs := [4]) (by kernel_rfl) (by simp) ?_
          refine (AllReadyH.cons (o := ⟨some 25, .call { callee := .value (.tmp 21), args := #[.tmp 24], argTypes := #[63] }, _, _, _, none⟩) rfl (fun K hK => ?_) AllReadyH.nil)
          (go_simp; refine (pathOf_any x hO).mono ?_; clear hO; rintro e w5 ⟨v, rfl, rfl, hO⟩)
          refine hK.out _ _ ⟨(hldx _ (hO.suf hs)), (hldy _ (hO.suf hs))⟩ (fun hS => ?_)
          clear hK K
          try simp only [Act.put, sb, s0, sz]
          refine wpAnyH_ready (rs := [9]) (by kernel_rfl) (by simp) ?_
          refine (AllReadyH.cons (o := ⟨some 30, .call { callee := .value (.tmp 26), args := #[.tmp 29], argTypes := #[63] }, _, _, _, none⟩) rfl (fun K hK => ?_) AllReadyH.nil)
          (go_simp; refine (pathOf_any y hO).mono ?_; clear hO; rintro e w5 ⟨v, rfl, rfl, hO⟩)
          refine hK.out _ _ ⟨(hldx _ (hO.suf hs)), (hldy _ (hO.suf hs))⟩ (fun hS => ?_)
          clear hK K
          try simp only [Act.put, sb, s0, sz]
          refine wpAnyH_ready (rs := [10]) (by kernel_rfl) (by simp) ?_
          refine (AllReadyH.cons (o := ⟨some 31, .call { callee := .value (.func 17), args := #[.tmp 25, .tmp 30], argTypes := #[9, 9] }, _, _, _, none⟩) rfl (fun K hK => ?_) AllReadyH.nil)
          (go_simp; refine (HO.out _ hO).mono ?_; clear hO; rintro e w5 ⟨v, rfl, rfl, hO⟩)
          refine hK.out _ _ ⟨(hldx _ (hO.suf hs)), (hldy _ (hO.suf hs))⟩ (fun hS => ?_)
          clear hK K
          try simp only [Act.put, sb, s0, sz]
          refine tV 11 ⟨some 10, .assign (.tmp 31), _, _, _, none⟩ hS ?_
          refine wpAnyH_done (by kernel_rfl) ?_ _
          all_goals
            clear hS
            have hE := hO
            go_wp2
            refine wp_region_held_drew (S := (fun _ => True)) (by kernel_rfl) trivial (fun hS => ?_)
            refine tV 0 ⟨some 48, .move (.tmp 1), _, _, _, none⟩ hS ?_
            refine tV 1 ⟨some 49, .indexAddr 22 (.tmp 48) (.const (.int .i64 0)), _, _, _, none⟩ hS ?_
            refine tV 2 ⟨some 50, .move (.tmp 1), _, _, _, none⟩ hS ?_
            refine tV 3 ⟨some 51, .slice 22 (.tmp 50) (some (.const (.int .i64 1))) none none, _, _, _, none⟩ hS ?_
            refine tV 4 ⟨some 12, .assign (.tmp 49), _, _, _, none⟩ hS ?_
            refine tV 5 ⟨some 1, .assign (.tmp 51), _, _, _, none⟩ hS ?_
            refine wpAnyH_done (by kernel_rfl) ?_ _
            all_goals
              clear hS
              replace hE := hE.drew
              go_wp2_with (first
                | go_skip
                | (go_at_call 32; refine (Hdo.out done none (some y) _ _ L _ ⟨_, hBB⟩ hJ hs hE rfl hpy).mono ?_; clear hE; rintro e w5 ⟨v, rfl, L', hJ', hs', hE⟩))
              go_roundw
              case rel => exact ⟨n, (x :: xs), ys, _, _, _, _, done ++ [(none, (some y))], L', by omega, by (try simp only [List.length_cons, List.length_nil]); omega, rfl, rfl, by (try simp only [List.length_cons, List.length_nil]); omega, by (try simp only [List.length_cons, List.length_nil]); omega, HX.out, hry, hxl, fun z hz => hyl z (by simp [hz]), by rw [List.append_assoc]; exact hBB, hJ', hs', hE⟩
              case measure => simp [lenV] <;> omega
        · simp only [bothB, h1, h2, if_false, Bool.false_eq_true] at hBB
          rw [ho] at HO
          clear ho h1 h2
          go_wp2
          have hO := hE.drew
          refine wp_region_held_drew (S := (fun w' => ((Instr.loadAt 63 (.pointer (some ⟨bx, ox, none⟩))).run Tryd.prog w' = .ok (.agg (enC x).toArray) w') ∧ ((Instr.loadAt 63 (.pointer (some ⟨b_y, oy, none⟩))).run Tryd.prog w' = .ok (.agg (enC y).toArray) w'))) (by kernel_rfl) ⟨(hldx _ (hO.suf hs)), (hldy _ (hO.suf hs))⟩ (fun hS => ?_)
          refine tV 0 ⟨some 21, .move (.tmp 2), _, _, _, none⟩ hS ?_
          refine tV 1 ⟨some 22, .move (.tmp 0), _, _, _, none⟩ hS ?_
          refine tV 2 ⟨some 23, .indexAddr 22 (.tmp 22) (.const (.int .i64 0)), _, _, _, none⟩ hS ?_
          refine tL 3 ⟨some 24, .load 63 (.tmp 23), _, _, _, none⟩ hS ?_
          refine tV 5 ⟨some 26, .move (.tmp 3), _, _, _, none⟩ hS ?_
          refine tV 6 ⟨some 27, .move (.tmp 1), _, _, _, none⟩ hS ?_
          refine tV 7 ⟨some 28, .indexAddr 22 (.tmp 27) (.const (.int .i64 0)), _, _, _, none⟩ hS ?_
          refine tL 8 ⟨some 29, .load 63 (.tmp 28), _, _, _, none⟩ hS ?_
          refine wpAnyH_ready (rs := [4]) (by kernel_rfl) (by simp) ?_
          refine (AllReadyH.cons (o := ⟨some 25, .call { callee := .value (.tmp 21), args := #[.tmp 24], argTypes := #[63] }, _, _, _, none⟩) rfl (fun K hK => ?_) AllReadyH.nil)
          (go_simp; refine (pathOf_any x hO).mono ?_; clear hO; rintro e w5 ⟨v, rfl, rfl, hO⟩)
          refine hK.out _ _ ⟨(hldx _ (hO.suf hs)), (hldy _ (hO.suf hs))⟩ (fun hS => ?_)
          clear hK K
          try simp only [Act.put, sb, s0, sz]
          refine wpAnyH_ready (rs := [9]) (by kernel_rfl) (by simp) ?_
          refine (AllReadyH.cons (o := ⟨some 30, .call { callee := .value (.tmp 26), args := #[.tmp 29], argTypes := #[63] }, _, _, _, none⟩) rfl (fun K hK => ?_) AllReadyH.nil)
          (go_simp; refine (pathOf_any y hO).mono ?_; clear hO; rintro e w5 ⟨v, rfl, rfl, hO⟩)
          refine hK.out _ _ ⟨(hldx _ (hO.suf hs)), (hldy _ (hO.suf hs))⟩ (fun hS => ?_)
          clear hK K
          try simp only [Act.put, sb, s0, sz]
          refine wpAnyH_ready (rs := [10]) (by kernel_rfl) (by simp) ?_
          refine (AllReadyH.cons (o := ⟨some 31, .call { callee := .value (.func 17), args := #[.tmp 25, .tmp 30], argTypes := #[9, 9] }, _, _, _, none⟩) rfl (fun K hK => ?_) AllReadyH.nil)
          (go_simp; refine (HO.out _ hO).mono ?_; clear hO; rintro e w5 ⟨v, rfl, rfl, hO⟩)
          refine hK.out _ _ ⟨(hldx _ (hO.suf hs)), (hldy _ (hO.suf hs))⟩ (fun hS => ?_)
          clear hK K
          try simp only [Act.put, sb, s0, sz]
          refine tV 11 ⟨some 10, .assign (.tmp 31), _, _, _, none⟩ hS ?_
          refine wpAnyH_done (by kernel_rfl) ?_ _
          all_goals
            clear hS
            have hE := hO
            go_wp2
            refine wp_region_held_drew (S := (fun _ => True)) (by kernel_rfl) trivial (fun hS => ?_)
            refine tV 0 ⟨some 42, .move (.tmp 0), _, _, _, none⟩ hS ?_
            refine tV 1 ⟨some 43, .indexAddr 22 (.tmp 42) (.const (.int .i64 0)), _, _, _, none⟩ hS ?_
            refine tV 2 ⟨some 44, .move (.tmp 0), _, _, _, none⟩ hS ?_
            refine tV 3 ⟨some 45, .slice 22 (.tmp 44) (some (.const (.int .i64 1))) none none, _, _, _, none⟩ hS ?_
            refine tV 4 ⟨some 11, .assign (.tmp 43), _, _, _, none⟩ hS ?_
            refine tV 5 ⟨some 0, .assign (.tmp 45), _, _, _, none⟩ hS ?_
            refine wpAnyH_done (by kernel_rfl) ?_ _
            all_goals
              clear hS
              replace hE := hE.drew
              go_wp2
              refine wp_region_held_drew (S := (fun _ => True)) (by kernel_rfl) trivial (fun hS => ?_)
              refine tV 0 ⟨some 48, .move (.tmp 1), _, _, _, none⟩ hS ?_
              refine tV 1 ⟨some 49, .indexAddr 22 (.tmp 48) (.const (.int .i64 0)), _, _, _, none⟩ hS ?_
              refine tV 2 ⟨some 50, .move (.tmp 1), _, _, _, none⟩ hS ?_
              refine tV 3 ⟨some 51, .slice 22 (.tmp 50) (some (.const (.int .i64 1))) none none, _, _, _, none⟩ hS ?_
              refine tV 4 ⟨some 12, .assign (.tmp 49), _, _, _, none⟩ hS ?_
              refine tV 5 ⟨some 1, .assign (.tmp 51), _, _, _, none⟩ hS ?_
              refine wpAnyH_done (by kernel_rfl) ?_ _
              all_goals
                clear hS
                replace hE := hE.drew
                go_wp2_with (first
                  | go_skip
                  | (go_at_call 32; refine (Hdo.out done (some x) (some y) _ _ L _ ⟨_, hBB⟩ hJ hs hE hpx hpy).mono ?_; clear hE; rintro e w5 ⟨v, rfl, L', hJ', hs', hE⟩))
                go_roundw
                case rel => exact ⟨n, xs, ys, _, _, _, _, done ++ [((some x), (some y))], L', by omega, by (try simp only [List.length_cons, List.length_nil]); omega, rfl, rfl, by (try simp only [List.length_cons, List.length_nil]); omega, by (try simp only [List.length_cons, List.length_nil]); omega, hrx, hry, fun z hz => hxl z (by simp [hz]), fun z hz => hyl z (by simp [hz]), by rw [List.append_assoc]; exact hBB, hJ', hs', hE⟩
                case measure => simp [lenV] <;> omega
end Go.Proofs.YtcpgelpajppgdaaDoor
namespace Go.Proofs.YtcpgelpajppgdaaDoor
open Go.RowKit Go.SL

theorem ent_len {t : Tr} (hw : Tr.Wf 6 t) {y : En} (hy : y ∈ entT 6 [] t) : y.path.length ≤ 3606 := by
  obtain ⟨s, k, hs, hg, rfl⟩ := (entT_mem hw).1 hy
  obtain ⟨hqa, hq6⟩ := get_names hw hg
  have := joinP_len s (fun x hx => by
    have := List.all_eq_true.1 hqa x hx
    simp only [isName, Bool.and_eq_true, decide_eq_true_eq] at this
    omega)
  simp only [List.nil_append]
  omega
theorem both_len {α β : Type} (f : α → List UInt8) (g : β → List UInt8) : ∀ n l m, (bothB f g n l m).length ≤ n
  | 0, _, _ => by simp [bothB]
  | n + 1, [], [] => by simp [bothB]
  | n + 1, [], y :: m => by have := both_len f g n [] m; simp only [bothB, List.length_cons]; omega
  | n + 1, x :: l, [] => by have := both_len f g n l []; simp only [bothB, List.length_cons]; omega
  | n + 1, x :: l, y :: m => by
    have h1 := both_len f g n l (y :: m)
    have h2 := both_len f g n (x :: l) m
    have h3 := both_len f g n l m
    simp only [bothB]
    split
    · simp only [List.length_cons]; omega
    · split <;> (simp only [List.length_cons]; omega)
theorem both_some {α β : Type} (f : α → List UInt8) (g : β → List UInt8) : ∀ n l m p, p ∈ bothB f g n l m → p.1 ≠ none ∨ p.2 ≠ none
  | 0, _, _, p, h => by simp [bothB] at h
  | n + 1, [], [], p, h => by simp [bothB] at h
  | n + 1, [], y :: m, p, h => by
    simp only [bothB, List.mem_cons] at h
    rcases h with rfl | h
    · exact .inr (by simp)
    · exact both_some f g n [] m p h
  | n + 1, x :: l, [], p, h => by
    simp only [bothB, List.mem_cons] at h
    rcases h with rfl | h
    · exact .inl (by simp)
    · exact both_some f g n l [] p h
  | n + 1, x :: l, y :: m, p, h => by
    simp only [bothB] at h
    split at h
    · rcases List.mem_cons.1 h with rfl | h
      · exact .inl (by simp)
      · exact both_some f g n l (y :: m) p h
    · split at h
      · rcases List.mem_cons.1 h with rfl | h
        · exact .inr (by simp)
        · exact both_some f g n (x :: l) m p h
      · rcases List.mem_cons.1 h with rfl | h
        · exact .inl (by simp)
        · exact both_some f g n l m p h
/-- what one pair does to the row -/
def JD (p1 : Nat) (L0 : List HProp) (done : List (Option En × Option En)) (L : List HProp) : Prop := ∃ ao c out, out = done.filterMap diffO ∧ L = pt p1 (.cells #[.slice ao out.length c] 30) :: rowCh ao c out :: L0
theorem JD_do {p1 : Nat} {L0 : List HProp} {BB : List (Option En × Option En)} (hB : BB.length ≤ 1000000) (hs : ∀ p ∈ BB, p.1 ≠ none ∨ p.2 ≠ none) : ∀ done x y px py L w, (∃ r, done ++ (x, y) :: r = BB) → JD p1 L0 done L → L0 <:+ L → Ent L w → ptrE L0 enC x px → ptrE L0 enC y py →
    Calls Tryd.prog 32 #[px, py, .pointer (some ⟨p1, 0, none⟩)] w (Ret fun _ w' => ∃ L', JD p1 L0 (done ++ [(x, y)]) L' ∧ L0 <:+ L' ∧ Ent L' w') := by
  rintro done x y px py L w ⟨r, hr⟩ ⟨ao, c, out, hout, rfl⟩ _ hE hx hy
  have hn : out.length ≤ 1000000 := by
    have h1 := List.length_filterMap_le diffO done
    have h2 := congrArg List.length hr
    rw [List.length_append] at h2
    rw [hout]
    omega
  have hxy := hs (x, y) (by rw [← hr]; simp)
  have fin : ∀ w', D1Post p1 (out ++ (diffO (x, y)).toList) L0 w' → ∃ L', JD p1 L0 (done ++ [(x, y)]) L' ∧ L0 <:+ L' ∧ Ent L' w' := by
    rintro w' ⟨a7, c7, h⟩
    refine ⟨_, ⟨a7, c7, out ++ (diffO (x, y)).toList, ?_, rfl⟩, (List.suffix_cons _ _).trans (List.suffix_cons _ _), h⟩
    rw [List.filterMap_append, ← hout]
    cases h : diffO (x, y) <;> simp [h]
  cases x with
  | none =>
    cases y with
    | none => simp at hxy
    | some b =>
      subst hx
      obtain ⟨b_y, oy, rfl, hy⟩ := hy
      refine (diff1_y hy hn hE).mono ?_
      rintro e w' ⟨v, rfl, h⟩
      exact ⟨v, rfl, fin _ h⟩
  | some a =>
    obtain ⟨bx, ox, rfl, hx⟩ := hx
    cases y with
    | none =>
      subst hy
      refine (diff1_x hx hn hE).mono ?_
      rintro e w' ⟨v, rfl, h⟩
      exact ⟨v, rfl, fin _ h⟩
    | some b =>
      obtain ⟨b_y, oy, rfl, hy⟩ := hy
      refine (diff1_xy hx hy hn hE).mono ?_
      rintro e w' ⟨v, rfl, h⟩
      exact ⟨v, rfl, fin _ h⟩
theorem Ent.out2 {A B P : HProp} {m n R : List HProp} {w : World} (h : Ent (A :: (m ++ (B :: (n ++ (P :: R))))) w) : Ent (P :: (A :: (m ++ (B :: (n ++ R))))) w := by
  have e1 : A :: (m ++ (B :: (n ++ (P :: R)))) = (A :: m ++ B :: n) ++ P :: R := by simp
  have e2 : A :: (m ++ (B :: (n ++ R))) = (A :: m ++ B :: n) ++ R := by simp
  rw [e1] at h
  rw [e2]
  exact h.perm List.perm_middle
theorem Ent.group2 {X A B P Q : HProp} {m n l : List HProp} {w : World} (h : Ent (X :: A :: (m ++ (B :: (n ++ (P :: Q :: l))))) w) : ∃ M, Ent (X :: (M ++ l)) w := ⟨A :: (m ++ (B :: (n ++ [P, Q]))), by simpa using h⟩
set_option maxRecDepth 100000 in
set_option maxHeartbeats 2000000 in
attribute [-go_sem] Instr.loadAt in
theorem Diff_any {t u : Tr} (ht : Tr.Wf 6 t) (hu : Tr.Wf 6 u) (hnt : (entT 6 [] t).length ≤ 100000) (hnu : (entT 6 [] u).length ≤ 100000) {kv lv : Value} {l : List HProp} (hkv : KidsAt l kv t.kids) (hlv : KidsAt l lv u.kids) {w : World} (hE : Ent l w) :
    Calls Tryd.prog 11 #[nodeV t kv, nodeV u lv] w (Ret fun v w' => ∃ ao c m, v = .slice ao (diffP (entT 6 [] t) (entT 6 [] u)).length c ∧ Ent (rowCh ao c (diffP (entT 6 [] t) (entT 6 [] u)) :: (m ++ l)) w') := by
  have H1 := SL.hid (fun (L : List HProp) (w : World) (hk : KidsAt L kv t.kids) (h : Ent L w) => Entries_any ht (by decide) hk (by omega) h)
  have H2 := SL.hid (fun (L : List HProp) (w : World) (hk : KidsAt L lv u.kids) (h : Ent L w) => Entries_any hu (by decide) hk (by omega) h)
  have hdp := diff_prog (Nat.le_refl _) (ent_rise ht) (ent_rise hu)
  have hle : ∀ x ∈ entT 6 [] t, x.path.length ≤ 100000 := fun x hx => by have := ent_len ht hx; omega
  have hlf : ∀ x ∈ entT 6 [] u, x.path.length ≤ 100000 := fun x hx => by have := ent_len hu hx; omega
  generalize entT 6 [] t = es at *
  generalize entT 6 [] u = fs at *
  generalize diffP es fs = ds at *
  obtain ⟨BB, hBB⟩ : ∃ BB, bothB En.path En.path (es.length + fs.length) es fs = BB := ⟨_, rfl⟩
  have HB := SL.hid (fun (L0 L : List HProp) (p1 : Nat) (ao bo : Option Addr) (c d : Nat) hc hd hx hy hs (w : World) (hE : Ent L w) (hJ : JD p1 L0 [] L) => both30_any (p1 := p1) (L0 := L0) (J := JD p1 L0) (ao := ao) (bo := bo) (c := c) (d := d) (JD_do (by rw [← hBB]; have := both_len En.path En.path (es.length + fs.length) es fs; omega) (by rw [← hBB]; exact both_some _ _ _ _ _)) (Nat.le_refl _) hBB hc hd hle hlf hx hy hJ hs hE)
  rw [hBB] at hdp
  have Hdp := SL.hid hdp
  clear hdp hBB hle hlf hnt hnu ht hu
  unfold nodeV at *
  go_enter Tryd.func11, Tryd.ntmps11
  go_wp2_with (first
    | go_skip
    | ((with_reducible (show Go.wpList _ _ _ (Go.Oper.mk _ (.box 25 (.tmp 0)) _ _ _ _ :: _) _ _)); refine wpl_box hE rfl rfl rfl ?_; clear hE; intro b2 w hE; simp only [Act.eval, Act.put, List.setIfInBounds_toArray, List.set_cons_zero, List.set_cons_succ, getD_lit, List.getD_cons_succ, List.getD_cons_zero, Value.cells] at hE)
    | ((with_reducible (show Go.wpList _ _ _ (Go.Oper.mk _ (.box _ _) _ _ _ _ :: _) _ _)); refine wpl_box hE rfl rfl rfl ?_; clear hE; intro b3 w hE; simp only [Act.eval, Act.put, List.setIfInBounds_toArray, List.set_cons_zero, List.set_cons_succ, getD_lit, List.getD_cons_succ, List.getD_cons_zero, Value.cells] at hE)
    | ((with_reducible (show Go.wpList _ _ _ (Go.Oper.mk _ (.alloc _) _ _ _ _ :: _) _ _)); refine wpl_alloc hE rfl rfl (by simp [go_sem]; rfl) ?_; clear hE; intro b5 w hE; simp only [Act.eval, Act.put, List.setIfInBounds_toArray, List.set_cons_zero, List.set_cons_succ, getD_lit, List.getD_cons_succ, List.getD_cons_zero, Value.cells] at hE))
  have hO := hE.drew
  have F2 := SL.hid (show ∀ w, Ent (pt b3 (.cells #[.bool u.dir, .string ⟨u.data.toArray⟩, lv] 25) :: pt b2 (.cells #[.bool t.dir, .string ⟨t.data.toArray⟩, kv] 25) :: l) w → (Instr.loadAt 25 (.pointer (some ⟨b2, 0, none⟩))).run Tryd.prog w = .ok (.agg #[.bool t.dir, .string ⟨t.data.toArray⟩, kv]) w from fun w h => atWm h (by repeat (first | exact List.Mem.head _ | refine List.Mem.tail _ ?_)) Tryd.isAgg25 Tryd.sizeOf25 rfl)
  have F3 := SL.hid (show ∀ w, Ent (pt b3 (.cells #[.bool u.dir, .string ⟨u.data.toArray⟩, lv] 25) :: pt b2 (.cells #[.bool t.dir, .string ⟨t.data.toArray⟩, kv] 25) :: l) w → (Instr.loadAt 25 (.pointer (some ⟨b3, 0, none⟩))).run Tryd.prog w = .ok (.agg #[.bool u.dir, .string ⟨u.data.toArray⟩, lv]) w from fun w h => atWm h (by repeat (first | exact List.Mem.head _ | refine List.Mem.tail _ ?_)) Tryd.isAgg25 Tryd.sizeOf25 rfl)
  have HK1 := SL.hid hkv
  have HK2 := SL.hid hlv
  clear hkv hlv
  have A1 := SL.hid True.intro
  refine wp_region_held_drew (S := (fun w' => ((Instr.loadAt 25 (.pointer (some ⟨b2, 0, none⟩))).run Tryd.prog w' = .ok (.agg #[.bool t.dir, .string ⟨t.data.toArray⟩, kv]) w') ∧ ((Instr.loadAt 25 (.pointer (some ⟨b3, 0, none⟩))).run Tryd.prog w' = .ok (.agg #[.bool u.dir, .string ⟨u.data.toArray⟩, lv]) w'))) (by kernel_rfl) ⟨(F2.out _ (hO.suf sfx)), (F3.out _ (hO.suf sfx))⟩ (fun hS => ?_)
  refine tL 0 ⟨some 6, .load 25 (.tmp 2), _, _, _, none⟩ hS ?_
  refine tL 2 ⟨some 8, .load 25 (.tmp 3), _, _, _, none⟩ hS ?_
  refine tV 4 ⟨some 10, .makeFunc (Go.Fn.func 32) #[] #[.tmp 5], _, _, _, none⟩ hS ?_
  refine wpAnyH_ready (rs := [1]) (by kernel_rfl) (by simp) ?_
  refine (AllReadyH.cons (o := ⟨some 7, .call { callee := .value (.func 23), args := #[.tmp 6], argTypes := #[25] }, _, _, _, none⟩) rfl (fun K hK => ?_) AllReadyH.nil)
  (go_simp; refine (H1.out _ _ (HK1.out.suf sfx) hO).mono ?_; clear hO; rintro e w5 ⟨v, h1, a1, c1, m1, h2, hO⟩; cases h1; cases h2)
  refine hK.out _ _ ⟨(F2.out _ (hO.suf sfx)), (F3.out _ (hO.suf sfx))⟩ (fun hS => ?_)
  clear hK K
  try simp only [Act.put, sb, s0, sz]
  refine wpAnyH_ready (rs := [3]) (by kernel_rfl) (by simp) ?_
  refine (AllReadyH.cons (o := ⟨some 9, .call { callee := .value (.func 23), args := #[.tmp 8], argTypes := #[25] }, _, _, _, none⟩) rfl (fun K hK => ?_) AllReadyH.nil)
  (go_simp; refine (H2.out _ _ (HK2.out.suf sfx) hO).mono ?_; clear hO; rintro e w5 ⟨v, h1, a2, c2, m2, h2, hO⟩; cases h1; cases h2)
  refine hK.out _ _ ⟨(F2.out _ (hO.suf sfx)), (F3.out _ (hO.suf sfx))⟩ (fun hS => ?_)
  clear hK K
  try simp only [Act.put, sb, s0, sz]
  refine wpAnyH_ready (rs := [5]) (by kernel_rfl) (by simp) ?_
  refine (AllReadyH.cons (o := ⟨some 11, .call { callee := .value (.func 30), args := #[.tmp 7, .tmp 9, .func 31, .func 31, .tmp 10], argTypes := #[22, 22, 69, 69, 72] }, _, _, _, none⟩) rfl (fun K hK => ?_) AllReadyH.nil)
  (go_simp; have hO := hO; have hQ := ((Ent.out2 hO).nil 65 7).front 1 rfl; simp only [List.eraseIdx_cons_succ, List.eraseIdx_cons_zero] at hQ; refine (HB.out (rowEn a2 c2 fs :: (m2 ++ (rowEn a1 c1 es :: (m1 ++ (pt b3 (.cells #[.bool u.dir, .string ⟨u.data.toArray⟩, lv] 25) :: pt b2 (.cells #[.bool t.dir, .string ⟨t.data.toArray⟩, kv] 25) :: l))))) _ b5 a1 a2 c1 c2 (row_capQ hO.tail.drop 0 rfl) (row_capQ hO 0 rfl) (fun w h => reads_row h.tail.drop 0 rfl) (fun w h => reads_row h 0 rfl) ((List.suffix_cons _ _).trans (List.suffix_cons _ _)) _ hQ ⟨none, 0, [], rfl, rfl⟩).mono ?_; clear hQ; rintro e w5 ⟨v, h1, L9, ⟨a3, c3, out, h2, h3⟩, h4, hQ⟩; cases h1; cases h3; cases h2)
  refine hK.out _ _ ⟨(F2.out _ (hQ.suf sfx)), (F3.out _ (hQ.suf sfx))⟩ (fun hS => ?_)
  clear hK K
  try simp only [Act.put, sb, s0, sz]
  refine wpAnyH_done (by kernel_rfl) ?_ _
  all_goals
    clear hS
    rw [show BB.filterMap diffO = ds from Hdp.out] at hQ
    go_wp2_with (first
      | go_skip
      | ((with_reducible (show Go.wpList _ _ _ (Go.Oper.mk _ (.load _ _) _ _ _ _ :: _) _ _)); refine wpl_load1 hQ 0 rfl rfl rfl rfl (by simp [go_sem]) rfl ?_))
    go_ret
    obtain ⟨M, hM⟩ := Ent.group2 hQ.tail
    exact ⟨_, rfl, a3, c3, M, rfl, hM⟩
end Go.Proofs.YtcpgelpajppgdaaDoor
namespace Go.Proofs.YtcpgelpajppgdaaDoor
open Go.RowKit Go.SL

noncomputable def revP (es : List Ch) : List Ch := if mayB es = true then es.map swapC else []
noncomputable def revE (es : List Ch) : Int := if mayB es = true then 0 else 3
def RvRel (es : List Ch) (row : Option Addr → Nat → List Ch → HProp) (l : List HProp) (o i : Value) (wr : World) : Prop :=
  ∃ (k : Nat) (ao : Option Addr) (c : Nat) (out : List Ch), k ≤ es.length ∧ i = .int .i64 k ∧ out = (es.take k).map swapC ∧ o = .slice ao out.length c ∧ Ent (row ao c out :: l) wr
set_option maxRecDepth 100000 in
set_option maxHeartbeats 4000000 in
attribute [-go_sem] Instr.loadAt in
theorem Reverse_in {es : List Ch} (hn : es.length ≤ 100000) {ao : Option Addr} {c : Nat} {l : List HProp} {w : World} (hM : ∀ w, Ent l w → Calls Tryd.prog 42 #[.slice ao es.length c] w (Ret (MPost es l))) (hk : Knows l (reads (.slice ao es.length c) es.length (es.flatMap chC))) (hE : Ent l w) :
    Calls Tryd.prog 26 #[.slice ao es.length c] w (Ret fun v w' => ∃ ao' c', v = .tuple #[.slice ao' (revP es).length c', .int .i64 (revE es)] ∧ Ent (rowCh ao' c' (revP es) :: l) w') := by
  have HM := SL.hid hM
  clear hM
  unfold revP revE
  unfold MPost at HM
  cases hb : mayB es with
  | false =>
    rw [hb] at HM
    clear hb
    go_enter Tryd.func26, Tryd.ntmps26
    go_wp2_with (first
      | go_skip
      | (go_at_call 42; refine (HM.out _ hE).mono ?_; clear hE; rintro e w2 ⟨v, h1, h2, hE⟩; cases h1; cases h2))
    refine bodyPost_ret (results_tmp2 rfl _ _ _) rfl ?_
    exact ⟨_, rfl, none, 0, by simp, by simpa [rowCh] using hE.nil _ _⟩
  | true =>
    rw [hb] at HM
    clear hb
    go_enter Tryd.func26, Tryd.ntmps26
    go_wp2_with (first
      | go_skip
      | (go_at_call 42; refine (HM.out _ hE).mono ?_; clear hE; rintro e w2 ⟨v, h1, h2, hE⟩; cases h1; cases h2))
    go_loopw [4, 12] (fun o i wr => RvRel es rowCh l o i wr) (fun _ i _ => es.length - (intOf i).toNat)
    case atStart => exact ⟨0, none, 0, [], Nat.zero_le _, rfl, rfl, rfl, hE.nil _ _⟩
    case round =>
      clear hE
      obtain ⟨k, a1, c1, out, hkl, rfl, hout, rfl, hE⟩ := hrel
      have hol : out.length ≤ 100000 := by
        rw [hout, List.length_map, List.length_take]
        omega
      by_cases hlt : k < es.length
      · obtain ⟨b, off, rfl, hz⟩ := ch_at (hk _ hE.tail) hlt
        clear hz
        have hld := (load_dc (hk _ hE.tail) hlt).1
        have Hst := SL.hid (show (es.take (k + 1)).map swapC = out ++ [swapC es[k]] by rw [List.take_succ_eq_append_getElem hlt, List.map_append, ← hout]; rfl)
        clear hout
        generalize es[k] = x at *
        obtain ⟨xp, ⟨qt, qd, qb⟩, ⟨ut, ud, ub⟩⟩ := x
        simp only [chC] at hld
        go_wp2_with (first
          | go_skip
          | ((with_reducible (show Go.wpList _ _ _ (Go.Oper.mk _ (.alloc _) _ _ _ _ :: _) _ _)); clear hld; refine wpl_alloc hE rfl rfl (by simp [go_sem]; rfl) ?_; clear hE; intro b4 w hE; simp only [Act.eval, Act.put, List.setIfInBounds_toArray, List.set_cons_zero, List.set_cons_succ, getD_lit, List.getD_cons_succ, List.getD_cons_zero, Value.cells] at hE)
          | ((with_reducible (show Go.wpList _ _ _ (Go.Oper.mk _ (.store 65 _ _) _ _ _ _ :: _) _ _)); (first | (refine wpl_storeW hE 0 rfl rfl rfl (xs := [.string ⟨xp.toArray⟩, .bool qt, .bool qd, .string ⟨qb.toArray⟩, .bool ut, .bool ud, .string ⟨ub.toArray⟩]) rfl rfl Tryd.sizeOf65 rfl (by simp [Value.oneCell']) rfl ?_) | (refine wpl_storeW hE 1 rfl rfl rfl (xs := [.string ⟨xp.toArray⟩, .bool qt, .bool qd, .string ⟨qb.toArray⟩, .bool ut, .bool ud, .string ⟨ub.toArray⟩]) rfl rfl Tryd.sizeOf65 rfl (by simp [Value.oneCell']) rfl ?_) | (refine wpl_storeW hE 2 rfl rfl rfl (xs := [.string ⟨xp.toArray⟩, .bool qt, .bool qd, .string ⟨qb.toArray⟩, .bool ut, .bool ud, .string ⟨ub.toArray⟩]) rfl rfl Tryd.sizeOf65 rfl (by simp [Value.oneCell']) rfl ?_) | (refine wpl_storeW hE 3 rfl rfl rfl (xs := [.string ⟨xp.toArray⟩, .bool qt, .bool qd, .string ⟨qb.toArray⟩, .bool ut, .bool ud, .string ⟨ub.toArray⟩]) rfl rfl Tryd.sizeOf65 rfl (by simp [Value.oneCell']) rfl ?_) | (refine wpl_storeW hE 4 rfl rfl rfl (xs := [.string ⟨xp.toArray⟩, .bool qt, .bool qd, .string ⟨qb.toArray⟩, .bool ut, .bool ud, .string ⟨ub.toArray⟩]) rfl rfl Tryd.sizeOf65 rfl (by simp [Value.oneCell']) rfl ?_) | (refine wpl_storeW hE 5 rfl rfl rfl (xs := [.string ⟨xp.toArray⟩, .bool qt, .bool qd, .string ⟨qb.toArray⟩, .bool ut, .bool ud, .string ⟨ub.toArray⟩]) rfl rfl Tryd.sizeOf65 rfl (by simp [Value.oneCell']) rfl ?_) | (refine wpl_storeW hE 6 rfl rfl rfl (xs := [.string ⟨xp.toArray⟩, .bool qt, .bool qd, .string ⟨qb.toArray⟩, .bool ut, .bool ud, .string ⟨ub.toArray⟩]) rfl rfl Tryd.sizeOf65 rfl (by simp [Value.oneCell']) rfl ?_) | (refine wpl_storeW hE 7 rfl rfl rfl (xs := [.string ⟨xp.toArray⟩, .bool qt, .bool qd, .string ⟨qb.toArray⟩, .bool ut, .bool ud, .string ⟨ub.toArray⟩]) rfl rfl Tryd.sizeOf65 rfl (by simp [Value.oneCell']) rfl ?_)); clear hE; intro w hE; simp only [List.set_cons_zero, List.set_cons_succ] at hE)
          | ((with_reducible (show Go.wpList _ _ _ (Go.Oper.mk _ (.load 36 _) _ _ _ _ :: _) _ _)); first | refine wpl_loadA hE 0 rfl rfl rfl (off := 1) rfl Tryd.isAgg36 Tryd.sizeOf36 [.bool qt, .bool qd, .string ⟨qb.toArray⟩] rfl (fun j hj => by match j, hj with | 0, _ => rfl | 1, _ => rfl | 2, _ => rfl) ?_ | refine wpl_loadA hE 0 rfl rfl rfl (off := 4) rfl Tryd.isAgg36 Tryd.sizeOf36 [.bool ut, .bool ud, .string ⟨ub.toArray⟩] rfl (fun j hj => by match j, hj with | 0, _ => rfl | 1, _ => rfl | 2, _ => rfl) ?_)
          | ((with_reducible (show Go.wpList _ _ _ (Go.Oper.mk _ (.buildSlice _ _ _) _ _ _ _ :: _) _ _)); refine wpl_build1 hE rfl rfl (xs := chC ⟨xp, ⟨ut, ud, ub⟩, ⟨qt, qd, qb⟩⟩) rfl Tryd.underlying30 zs_ch Tryd.sizeOf65 (by decide) (by decide) rfl ?_; clear hE; intro b9 w3 hE)
          | ((with_reducible (show Go.wpList _ _ _ (Go.Oper.mk _ (.call { callee := .builtin .append, args := _, argTypes := _ }) _ _ _ _ :: _) _ _)); refine wpl_appendG hE 2 rfl rfl rfl rfl rfl Tryd.underlying30 info_ch (by decide) (m := 1) (news := chC ⟨xp, ⟨ut, ud, ub⟩, ⟨qt, qd, qb⟩⟩) (reads_pt hE 0 rfl (off := 0) (fun j u hu => by rw [Nat.zero_add, List.getElem?_toArray]; exact hu)) rfl (chC_one _) (by omega) (by omega) ?_; clear hE; intro a7 c7 w6 hE; simp only [List.set_cons_zero, List.set_cons_succ] at hE)
          | ((with_reducible (show Go.wpList _ _ _ (Go.Oper.mk _ (.load _ _) _ _ _ _ :: _) _ _)); (first | (refine wpl_load1 hE 0 rfl rfl rfl rfl (by simp [go_sem]) rfl ?_) | (refine wpl_load1 hE 1 rfl rfl rfl rfl (by simp [go_sem]) rfl ?_) | (refine wpl_load1 hE 2 rfl rfl rfl rfl (by simp [go_sem]) rfl ?_) | (refine wpl_load1 hE 3 rfl rfl rfl rfl (by simp [go_sem]) rfl ?_) | (refine wpl_load1 hE 4 rfl rfl rfl rfl (by simp [go_sem]) rfl ?_) | (refine wpl_load1 hE 5 rfl rfl rfl rfl (by simp [go_sem]) rfl ?_) | (refine wpl_load1 hE 6 rfl rfl rfl rfl (by simp [go_sem]) rfl ?_) | (refine wpl_load1 hE 7 rfl rfl rfl rfl (by simp [go_sem]) rfl ?_))))
        go_roundw
        case rel =>
          refine ⟨k + 1, a7, c7, out ++ [⟨xp, ⟨ut, ud, ub⟩, ⟨qt, qd, qb⟩⟩], hlt, by first | rfl | simp, by rw [Hst.out]; rfl, by simp, ?_⟩
          rw [← rowCh_add]
          exact hE.tail.tail
        case measure => simp [intOf] <;> omega
      · obtain rfl : k = es.length := by omega
        rw [List.take_length] at hout
        subst hout
        go_wp2
        refine bodyPost_ret (results_tmp2 rfl _ _ _) rfl ?_
        exact ⟨_, rfl, a1, c1, by simp, by simpa using hE⟩
end Go.Proofs.YtcpgelpajppgdaaDoor
namespace Go.Proofs.YtcpgelpajppgdaaDoor
open Go.RowKit Go.SL

def JC (p1 p2 : Nat) (L0 : List HProp) (done : List (Option Ch × Option Ch)) (L : List HProp) : Prop := ∃ ao c, L = boC p1 p2 ao c (done.filterMap stepO) (done.all fun p => fitsB p.1 p.2) L0
theorem stepO_x (x : Ch) : stepO (some x, none) = some x := rfl
theorem stepO_y (y : Ch) : stepO (none, some y) = some y := rfl
theorem boC_suf {p1 p2 : Nat} {ao : Option Addr} {c : Nat} {out : List Ch} {ok : Bool} {L0 : List HProp} : L0 <:+ boC p1 p2 ao c out ok L0 := (List.suffix_cons _ _).trans ((List.suffix_cons _ _).trans (List.suffix_cons _ _))
theorem JC_do {p1 p2 : Nat} {L0 : List HProp} {BB : List (Option Ch × Option Ch)} (hB : BB.length ≤ 1000000) (hs : ∀ p ∈ BB, p.1 ≠ none ∨ p.2 ≠ none) : ∀ done x y px py L w, (∃ r, done ++ (x, y) :: r = BB) → JC p1 p2 L0 done L → L0 <:+ L → Ent L w → ptrE L0 chC x px → ptrE L0 chC y py →
    Calls Tryd.prog 55 #[px, py, .pointer (some ⟨p1, 0, none⟩), .pointer (some ⟨p2, 0, none⟩)] w (Ret fun _ w' => ∃ L', JC p1 p2 L0 (done ++ [(x, y)]) L' ∧ L0 <:+ L' ∧ Ent L' w') := by
  rintro done x y px py L w ⟨r, hr⟩ ⟨ao, c, rfl⟩ _ hE hx hy
  have hn : (done.filterMap stepO).length ≤ 1000000 := by
    have h1 := List.length_filterMap_le stepO done
    have h2 := congrArg List.length hr
    rw [List.length_append] at h2
    omega
  have hxy := hs (x, y) (by rw [← hr]; simp)
  have fin : ∀ w', C1Post p1 p2 (done.filterMap stepO ++ (stepO (x, y)).toList) ((done.all fun p => fitsB p.1 p.2) && fitsB x y) L0 w' → ∃ L', JC p1 p2 L0 (done ++ [(x, y)]) L' ∧ L0 <:+ L' ∧ Ent L' w' := by
    rintro w' ⟨a7, c7, h⟩
    refine ⟨_, ⟨a7, c7, rfl⟩, boC_suf, ?_⟩
    rw [List.filterMap_append, List.all_append]
    have e1 : List.filterMap stepO [(x, y)] = (stepO (x, y)).toList := by cases h : stepO (x, y) <;> simp [h]
    have e2 : ([(x, y)].all fun p => fitsB p.1 p.2) = fitsB x y := by simp
    rw [e1, e2]
    exact h
  cases x with
  | none =>
    cases y with
    | none => simp at hxy
    | some b =>
      subst hx
      obtain ⟨b_y, oy, rfl, hy⟩ := hy
      refine (comp1_y hy hn hE).mono ?_
      rintro e w' ⟨v, rfl, h⟩
      exact ⟨v, rfl, fin _ (by rw [stepO_y]; simpa [fitsB] using h)⟩
  | some a =>
    obtain ⟨bx, ox, rfl, hx⟩ := hx
    cases y with
    | none =>
      subst hy
      refine (comp1_x hx hn hE).mono ?_
      rintro e w' ⟨v, rfl, h⟩
      exact ⟨v, rfl, fin _ (by rw [stepO_x]; simpa [fitsB] using h)⟩
    | some b =>
      obtain ⟨b_y, oy, rfl, hy⟩ := hy
      refine (comp1_xy hx hy hn hE).mono ?_
      rintro e w' ⟨v, rfl, h⟩
      exact ⟨v, rfl, fin _ h⟩
theorem may_rise {es : List Ch} (h : mayB es = true) : RiseP (es.map Ch.path) := by
  have h : mayR es := by simpa [mayB] using h
  exact h.2
theorem fm_all {P : List (Option Ch × Option Ch)} (h : (P.all fun p => fitsB p.1 p.2) = true) : P.filterMap stepO = P.filterMap fun p => compO p.1 p.2 := fm_congr fun p hp => by
  have := List.all_eq_true.1 h p hp
  rw [stepO, if_pos this]
set_option maxRecDepth 100000 in
set_option maxHeartbeats 4000000 in
theorem Compose_in {a b : List Ch} (hna : a.length ≤ 40000) (hnb : b.length ≤ 40000) (hpa : ∀ x ∈ a, x.path.length ≤ 100000) (hpb : ∀ x ∈ b, x.path.length ≤ 100000) {aa ab : Option Addr} {ca cb : Nat} (hca : a.length ≤ ca) (hcb : b.length ≤ cb) {l : List HProp} {w : World}
    (hM1 : ∀ w, Ent l w → Calls Tryd.prog 42 #[.slice aa a.length ca] w (Ret (MPost a l))) (hM2 : ∀ w, Ent l w → Calls Tryd.prog 42 #[.slice ab b.length cb] w (Ret (MPost b l)))
    (hka : Knows l (reads (.slice aa a.length ca) a.length (a.flatMap chC))) (hkb : Knows l (reads (.slice ab b.length cb) b.length (b.flatMap chC))) (hE : Ent l w) :
    Calls Tryd.prog 24 #[.slice aa a.length ca, .slice ab b.length cb] w (Ret (CmPost rowCh (cmpP a b) (cmpE a b) l)) := by
  have HM1 := SL.hid hM1
  have HM2 := SL.hid hM2
  clear hM1 hM2
  unfold cmpP cmpE
  unfold MPost at HM1 HM2
  have hr1 := may_rise (es := a)
  have hr2 := may_rise (es := b)
  generalize mayB a = ma at *
  generalize mayB b = mb at *
  cases ma with
  | false =>
    clear hr1 hr2
    go_enter Tryd.func24, Tryd.ntmps24
    go_wp2_with (first
      | go_skip
      | (go_at_call 42; refine (HM1.out _ hE).mono ?_; clear hE; rintro e w2 ⟨v, h1, h2, hE⟩; cases h1; cases h2))
    refine bodyPost_ret (results_tmp2 rfl _ _ _) rfl ?_
    exact ⟨_, rfl, none, 0, [], rfl, hE.nil _ _⟩
  | true =>
  cases mb with
  | false =>
    clear hr1 hr2
    have A1 := SL.hid True.intro
    go_enter Tryd.func24, Tryd.ntmps24
    go_wp2_with (first
      | go_skip
      | (clear A1; go_at_call 42; refine (HM1.out _ hE).mono ?_; clear hE; rintro e w2 ⟨v, h1, h2, hE⟩; cases h1; cases h2)
      | (go_at_call 42; refine (HM2.out _ hE).mono ?_; clear hE; rintro e w2 ⟨v, h1, h2, hE⟩; cases h1; cases h2))
    refine bodyPost_ret (results_tmp2 rfl _ _ _) rfl ?_
    exact ⟨_, rfl, none, 0, [], rfl, hE.nil _ _⟩
  | true =>
  simp only [Bool.and_self, if_true]
  have hBB : bothB Ch.path Ch.path (a.length + b.length) a b = pairsC a b := both_sorted (Nat.le_refl _) (hr1 rfl) (hr2 rfl)
  have hBl := both_len Ch.path Ch.path (a.length + b.length) a b
  have hBs := both_some Ch.path Ch.path (a.length + b.length) a b
  rw [hBB] at hBl hBs
  have HB := SL.hid (fun (L : List HProp) (p1 p2 : Nat) hs (w : World) (hE : Ent L w) (hJ : JC p1 p2 l [] L) => both54_any (p1 := p1) (p2 := p2) (L0 := l) (J := JC p1 p2 l) (JC_do (by omega) hBs) (Nat.le_refl _) hBB hca hcb hpa hpb hka hkb hJ hs hE)
  generalize pairsC a b = BB at *
  clear hBB hBl hBs hr1 hr2
  obtain ⟨XR, hXR⟩ : ∃ XR : List Ch, (if (BB.all fun p => fitsB p.1 p.2) = true then BB.filterMap (fun p => compO p.1 p.2) else []) = XR := ⟨_, rfl⟩
  obtain ⟨ER, hER⟩ : ∃ ER : Int, (if (BB.all fun p => fitsB p.1 p.2) = true then 0 else 10) = ER := ⟨_, rfl⟩
  have HXR := SL.hid hXR
  have HER := SL.hid hER
  rw [hXR, hER]
  clear hXR hER
  have Hfm := SL.hid (fm_all (P := BB))
  have A1 := SL.hid True.intro
  go_enter Tryd.func24, Tryd.ntmps24
  go_wp2_with (first
    | go_skip
    | (clear A1; go_at_call 42; refine (HM1.out _ hE).mono ?_; clear hE; rintro e w2 ⟨v, h1, h2, hE⟩; cases h1; cases h2)
    | (go_at_call 42; refine (HM2.out _ hE).mono ?_; clear hE; rintro e w2 ⟨v, h1, h2, hE⟩; cases h1; cases h2)
    | ((with_reducible (show Go.wpList _ _ _ (Go.Oper.mk _ (.alloc 30) _ _ _ _ :: _) _ _)); refine wpl_alloc hE rfl rfl (by simp [go_sem]; rfl) ?_; clear hE; intro b6 w hE; simp only [Act.eval, Act.put, List.setIfInBounds_toArray, List.set_cons_zero, List.set_cons_succ, getD_lit, List.getD_cons_succ, List.getD_cons_zero, Value.cells] at hE)
    | ((with_reducible (show Go.wpList _ _ _ (Go.Oper.mk _ (.alloc 4) _ _ _ _ :: _) _ _)); refine wpl_alloc hE rfl rfl (by simp [go_sem]; rfl) ?_; clear hE; intro b7 w hE; simp only [Act.eval, Act.put, List.setIfInBounds_toArray, List.set_cons_zero, List.set_cons_succ, getD_lit, List.getD_cons_succ, List.getD_cons_zero, Value.cells] at hE)
    | ((with_reducible (show Go.wpList _ _ _ (Go.Oper.mk _ (.store 4 _ _) _ _ _ _ :: _) _ _)); refine wpl_st1 hE 0 rfl rfl rfl rfl rfl (by first | (simp [go_sem]; done) | (simp [go_sem]; rfl)) rfl rfl (by simp) ?_; clear hE; intro w7 hE; simp only [List.set_cons_zero, List.set_cons_succ] at hE)
    | (go_at_call 54; have hQ := (((hE.nil 65 7).front 1 rfl).front 2 rfl); simp only [List.eraseIdx_cons_succ, List.eraseIdx_cons_zero] at hQ; have hQ2 : Ent (boC b6 b7 none 0 [] true l) _ := hQ; refine (HB.out _ b6 b7 boC_suf _ hQ2 ⟨none, 0, rfl⟩).mono ?_; clear hQ hQ2 hE; rintro e w5 ⟨v, h1, L9, ⟨a3, c3, h3⟩, h4, hE⟩; cases h1; subst h3; unfold boC at hE; obtain ⟨ok, hok⟩ : ∃ ok, (BB.all fun p => fitsB p.1 p.2) = ok := ⟨_, rfl⟩; rw [hok] at hE HXR HER Hfm; clear hok h4)
    | ((with_reducible (show Go.wpList _ _ _ (Go.Oper.mk _ (.load 4 _) _ _ _ _ :: _) _ _)); refine wpl_load1 hE 1 rfl rfl rfl rfl (by simp [go_sem]) rfl ?_)
    | ((with_reducible (show Go.wpList _ _ _ (Go.Oper.mk _ (.load 30 _) _ _ _ _ :: _) _ _)); refine wpl_load1 hE 0 rfl rfl rfl rfl (by simp [go_sem]) rfl ?_))
  · next h =>
    refine bodyPost_ret (results_tmp2 rfl _ _ _) rfl ?_
    refine ⟨_, rfl, ?_⟩
    obtain rfl : ok = false := by simpa using h
    rw [← HXR.out, ← HER.out]
    exact ⟨none, 0, [], rfl, hE.tail.tail.tail.nil _ _⟩
  · next h =>
    refine bodyPost_ret (results_tmp2 rfl _ _ _) rfl ?_
    refine ⟨_, rfl, ?_⟩
    obtain rfl : ok = true := by simpa using h
    rw [← HXR.out, ← HER.out, ← Hfm.out rfl]
    exact ⟨a3, c3, [], rfl, hE.tail.tail⟩
end Go.Proofs.YtcpgelpajppgdaaDoor
namespace Go.Proofs.YtcpgelpajppgdaaDoor
open Go.RowKit Go.SL

/-- does a change fit to what there is? -/
def fitA : Option En → Option Ch → Bool
  | _, none => true
  | x, some c => sideO x == c.was
def stepA (p : Option En × Option Ch) : Option En := if fitA p.1 p.2 = true then actO p.1 p.2 else none
def boA (p1 p2 : Nat) (ao : Option Addr) (c : Nat) (out : List En) (ok : Bool) (L0 : List HProp) : List HProp := pt p1 (.cells #[.slice ao out.length c] 22) :: pt p2 (.cells #[.bool ok] 4) :: rowEn ao c out :: L0
def A1Post (p1 p2 : Nat) (out' : List En) (ok' : Bool) (L0 : List HProp) (w' : World) : Prop := ∃ ao c, Ent (boA p1 p2 ao c out' ok' L0) w'
theorem rowEn_add {ao : Option Addr} {c : Nat} {out : List En} {x : En} : row 63 3 (.slice ao (out.length + 1) c) (out.length + 1) (out.flatMap enC ++ enC x) = rowEn ao c (out ++ [x]) := by
  simp [rowEn]
theorem ptr_en {L0 : List HProp} {x : En} {b off : Nat} (hx : ∀ w, Ent L0 w → ∀ j v, (enC x)[j]? = some v → w.cell? ⟨b, off + j, none⟩ = some v) {w : World} (hw : Ent L0 w) :
    (Instr.loadAt 63 (.pointer (some ⟨b, off, none⟩))).run Tryd.prog w = .ok (.agg (enC x).toArray) w :=
  atCells Tryd.isAgg63 Tryd.sizeOf63 (enC x) rfl (fun j v hv => by rw [Addr.add_lit]; exact hx w hw j v hv)

set_option maxRecDepth 100000 in
set_option maxHeartbeats 4000000 in
attribute [-go_sem] Instr.loadAt Go.run_equalIn_agg in
theorem app1_x {L0 : List HProp} {x : En} {bx ox : Nat} (hx : ∀ w, Ent L0 w → ∀ j v, (enC x)[j]? = some v → w.cell? ⟨bx, ox + j, none⟩ = some v) {p1 p2 : Nat} {ao : Option Addr} {c : Nat} {out : List En} {ok : Bool} (hn : out.length ≤ 1000000) {w : World} (hE : Ent (boA p1 p2 ao c out ok L0) w) :
    Calls Tryd.prog 45 #[.pointer (some ⟨bx, ox, none⟩), .pointer none, .pointer (some ⟨p1, 0, none⟩), .pointer (some ⟨p2, 0, none⟩)] w (Ret fun _ w' => A1Post p1 p2 (out ++ [x]) ok L0 w') := by
  unfold boA at hE
  have HX := SL.hid (fun (w : World) (h : Ent L0 w) => ptr_en hx h)
  clear hx
  go_enter Tryd.func45, Tryd.ntmps45
  go_wp2
  have hO := hE.drew
  refine wp_region_held_drew (S := (fun w' => ((Instr.loadAt 63 (.pointer (some ⟨bx, ox, none⟩))).run Tryd.prog w' = .ok (.agg (enC x).toArray) w'))) (by kernel_rfl) (HX.out _ (hO.suf sfx)) (fun hS => ?_)
  refine tV 1 ⟨some 10, .move (.tmp 0), _, _, _, none⟩ hS ?_
  refine tV 2 ⟨some 11, .nilCheck (.tmp 10), _, _, _, none⟩ hS ?_
  refine tL 3 ⟨some 12, .load 63 (.tmp 11), _, _, _, none⟩ hS ?_
  refine wpAnyH_ready (rs := [0, 4]) (by kernel_rfl) (by simp) ?_
  refine (AllReadyH.cons (o := ⟨some 9, .load 22 (.tmp 2), _, _, _, none⟩) rfl (fun K hK => ?_) (AllReadyH.cons (o := ⟨some 13, .buildSlice 22 1 #[(0, .tmp 12)], _, _, _, none⟩) rfl (fun K hK => ?_) AllReadyH.nil))
  focus
    (first | (refine step_load1 hO 0 rfl (by rfl) (by rfl) (by rfl) (by simp [go_sem]) rfl ?_) | (refine step_load1 hO 1 rfl (by rfl) (by rfl) (by rfl) (by simp [go_sem]) rfl ?_))
    refine hK.out _ _ (HX.out _ (hO.suf sfx)) (fun hS => ?_)
    clear hK K
    try simp only [Act.put, sb, s0, sz]
    refine wpAnyH_ready (rs := [4]) (by kernel_rfl) (by simp) ?_
    refine (AllReadyH.cons (o := ⟨some 13, .buildSlice 22 1 #[(0, .tmp 12)], _, _, _, none⟩) rfl (fun K hK => ?_) AllReadyH.nil)
    (refine step_build1 hO rfl (by rfl) (xs := enC x) (by rfl) Tryd.underlying22 zs_en Tryd.sizeOf63 (by decide) (by decide) rfl ?_; clear hO; intro b9 w7 hO)
    refine hK.out _ _ (HX.out _ (hO.suf sfx)) (fun hS => ?_)
    clear hK K
    try simp only [Act.put, sb, s0, sz]
    refine wpAnyH_ready (rs := [5]) (by kernel_rfl) (by simp) ?_
    refine (AllReadyH.cons (o := ⟨some 14, .call { callee := .builtin .append, args := #[.tmp 9, .tmp 13], argTypes := #[22, 22] }, _, _, _, none⟩) rfl (fun K hK => ?_) AllReadyH.nil)
    (refine step_appendG hO 3 rfl rfl (by rfl) (by rfl) (by rfl) Tryd.underlying22 info_en (by decide) (m := 1) (news := enC x) (reads_pt hO 0 rfl (off := 0) (fun j u hu => by rw [Nat.zero_add, List.getElem?_toArray]; exact hu)) rfl (enC_one _) (by omega) (by omega) ?_; clear hO; intro a7 c7 w8 hO; simp only [List.set_cons_zero, List.set_cons_succ] at hO)
    refine hK.out _ _ (HX.out _ (hO.suf sfx)) (fun hS => ?_)
    clear hK K
    try simp only [Act.put, sb, s0, sz]
    refine wpAnyH_ready (rs := [6]) (by kernel_rfl) (by simp) ?_
    refine (AllReadyH.cons (o := ⟨none, .store 22 (.tmp 2) (.tmp 14), _, _, _, none⟩) rfl (fun K hK => ?_) AllReadyH.nil)
    (refine step_setC hO 1 rfl (by rfl) (by rfl) (by rfl) (v := .slice a7 (out.length + 1) c7) (by rfl) (by first | (simp [go_sem]; done) | (simp [go_sem]; rfl)) rfl rfl (by simp) ?_; clear hO; intro w9 hO; simp only [List.set_cons_zero, List.set_cons_succ] at hO)
    refine hK.out _ _ (HX.out _ (hO.suf sfx)) (fun hS => ?_)
    clear hK K
    try simp only [Act.put, sb, s0, sz]
    refine wpAnyH_done (by kernel_rfl) ?_ _
  rotate_right
  focus
    (refine step_build1 hO rfl (by rfl) (xs := enC x) (by rfl) Tryd.underlying22 zs_en Tryd.sizeOf63 (by decide) (by decide) rfl ?_; clear hO; intro b9 w7 hO)
    refine hK.out _ _ (HX.out _ (hO.suf sfx)) (fun hS => ?_)
    clear hK K
    try simp only [Act.put, sb, s0, sz]
    refine wpAnyH_ready (rs := [0]) (by kernel_rfl) (by simp) ?_
    refine (AllReadyH.cons (o := ⟨some 9, .load 22 (.tmp 2), _, _, _, none⟩) rfl (fun K hK => ?_) AllReadyH.nil)
    (first | (refine step_load1 hO 0 rfl (by rfl) (by rfl) (by rfl) (by simp [go_sem]) rfl ?_) | (refine step_load1 hO 1 rfl (by rfl) (by rfl) (by rfl) (by simp [go_sem]) rfl ?_))
    refine hK.out _ _ (HX.out _ (hO.suf sfx)) (fun hS => ?_)
    clear hK K
    try simp only [Act.put, sb, s0, sz]
    refine wpAnyH_ready (rs := [5]) (by kernel_rfl) (by simp) ?_
    refine (AllReadyH.cons (o := ⟨some 14, .call { callee := .builtin .append, args := #[.tmp 9, .tmp 13], argTypes := #[22, 22] }, _, _, _, none⟩) rfl (fun K hK => ?_) AllReadyH.nil)
    (refine step_appendG hO 3 rfl rfl (by rfl) (by rfl) (by rfl) Tryd.underlying22 info_en (by decide) (m := 1) (news := enC x) (reads_pt hO 0 rfl (off := 0) (fun j u hu => by rw [Nat.zero_add, List.getElem?_toArray]; exact hu)) rfl (enC_one _) (by omega) (by omega) ?_; clear hO; intro a7 c7 w8 hO; simp only [List.set_cons_zero, List.set_cons_succ] at hO)
    refine hK.out _ _ (HX.out _ (hO.suf sfx)) (fun hS => ?_)
    clear hK K
    try simp only [Act.put, sb, s0, sz]
    refine wpAnyH_ready (rs := [6]) (by kernel_rfl) (by simp) ?_
    refine (AllReadyH.cons (o := ⟨none, .store 22 (.tmp 2) (.tmp 14), _, _, _, none⟩) rfl (fun K hK => ?_) AllReadyH.nil)
    (refine step_setC hO 1 rfl (by rfl) (by rfl) (by rfl) (v := .slice a7 (out.length + 1) c7) (by rfl) (by first | (simp [go_sem]; done) | (simp [go_sem]; rfl)) rfl rfl (by simp) ?_; clear hO; intro w9 hO; simp only [List.set_cons_zero, List.set_cons_succ] at hO)
    refine hK.out _ _ (HX.out _ (hO.suf sfx)) (fun hS => ?_)
    clear hK K
    try simp only [Act.put, sb, s0, sz]
    refine wpAnyH_done (by kernel_rfl) ?_ _
  all_goals
    clear hS hE
    have hE := hO.tail
    clear hO
    go_wp2
    refine bodyPost_ret (results_none rfl _ _ _) rfl ?_
    refine ⟨_, rfl, a7, c7, ?_⟩
    have e1 : (out ++ [(x : En)]).length = out.length + 1 := by simp
    unfold boA
    rw [e1, ← rowEn_add]
    exact hE
set_option maxRecDepth 100000 in
set_option maxHeartbeats 4000000 in
attribute [-go_sem] Instr.loadAt Go.run_equalIn_agg in
theorem app1_c {L0 : List HProp} {y : Ch} {b_y oy : Nat} (hy : ∀ w, Ent L0 w → ∀ j v, (chC y)[j]? = some v → w.cell? ⟨b_y, oy + j, none⟩ = some v) {p1 p2 : Nat} {ao : Option Addr} {c : Nat} {out : List En} {ok : Bool} (hn : out.length ≤ 1000000) {w : World} (hE : Ent (boA p1 p2 ao c out ok L0) w) :
    Calls Tryd.prog 45 #[.pointer none, .pointer (some ⟨b_y, oy, none⟩), .pointer (some ⟨p1, 0, none⟩), .pointer (some ⟨p2, 0, none⟩)] w (Ret fun _ w' => A1Post p1 p2 (out ++ (stepA (none, some y)).toList) (ok && fitA (none) (some y)) L0 w') := by
  unfold boA at hE
  have HY := SL.hid (fun (w : World) (h : Ent L0 w) => ptr_ch hy h)
  clear hy
  have HEN := SL.hid (fun (L : List HProp) (w : World) (hs : L0 <:+ L) (hO : Ent L w) => entry_nil hO)
  obtain ⟨yp, ⟨yt, yd, yb⟩, ⟨wt, wd, wb⟩⟩ := y
  simp only [chC, sdC] at HY
  simp only [sdV, Sd.no] at HEN
  have hEq := fun w => eqSd 9998 ⟨false, false, []⟩ ⟨yt, yd, yb⟩ w
  have hk : stepA (none, some ⟨yp, ⟨yt, yd, yb⟩, ⟨wt, wd, wb⟩⟩) = if ((⟨false, false, []⟩ : Sd) == ⟨yt, yd, yb⟩) = true then (if wt = true then some ⟨yp, wd, wb⟩ else none) else none := rfl
  have hf : fitA (none) (some ⟨yp, ⟨yt, yd, yb⟩, ⟨wt, wd, wb⟩⟩) = ((⟨false, false, []⟩ : Sd) == ⟨yt, yd, yb⟩) := rfl
  rw [hk, hf]
  clear hk hf
  simp only [sdC] at hEq
  generalize ((⟨false, false, []⟩ : Sd) == ⟨yt, yd, yb⟩) = eq at *
  cases eq with
  | false =>
    simp only [Bool.and_false, Bool.false_eq_true, if_false, Option.toList, List.append_nil]
    go_enter Tryd.func45, Tryd.ntmps45
    go_wp2
    have hO := hE.drew
    refine wp_region_held_drew (S := (fun w' => ((Instr.loadAt 9 (.pointer (some ⟨b_y, oy, none⟩))).run Tryd.prog w' = .ok (.string ⟨yp.toArray⟩) w') ∧ ((Instr.loadAt 36 (.pointer (some ⟨b_y, oy + 1, none⟩))).run Tryd.prog w' = .ok (.agg #[.bool yt, .bool yd, .string ⟨yb.toArray⟩]) w') ∧ ((Instr.loadAt 4 (.pointer (some ⟨b_y, oy + 4, none⟩))).run Tryd.prog w' = .ok (.bool wt) w') ∧ ((Instr.loadAt 4 (.pointer (some ⟨b_y, oy + 4 + 1, none⟩))).run Tryd.prog w' = .ok (.bool wd) w') ∧ ((Instr.loadAt 9 (.pointer (some ⟨b_y, oy + 4 + 2, none⟩))).run Tryd.prog w' = .ok (.string ⟨wb.toArray⟩) w'))) (by kernel_rfl) ⟨(HY.out _ (hO.suf sfx)).2.1, (HY.out _ (hO.suf sfx)).2.2.1, (HY.out _ (hO.suf sfx)).2.2.2.2.1, (HY.out _ (hO.suf sfx)).2.2.2.2.2.1, (HY.out _ (hO.suf sfx)).2.2.2.2.2.2⟩ (fun hS => ?_)
    refine tV 0 ⟨some 16, .move (.tmp 0), _, _, _, none⟩ hS ?_
    refine tV 2 ⟨some 18, .move (.tmp 1), _, _, _, none⟩ hS ?_
    refine tV 3 ⟨some 19, .nilCheck (.tmp 18), _, _, _, none⟩ hS ?_
    refine tV 4 ⟨some 20, .fieldAddr 65 (.tmp 19) 1, _, _, _, none⟩ hS ?_
    refine tL 5 ⟨some 21, .load 36 (.tmp 20), _, _, _, none⟩ hS ?_
    refine wpAnyH_ready (rs := [1]) (by kernel_rfl) (by simp) ?_
    refine (AllReadyH.cons (o := ⟨some 17, .call { callee := .value (.func 33), args := #[.tmp 16], argTypes := #[70] }, _, _, _, none⟩) rfl (fun K hK => ?_) AllReadyH.nil)
    (go_simp; refine (HEN.out _ _ sfx hO).mono ?_; clear hO; rintro e w5 ⟨v, h1, h2, hO⟩; cases h1; cases h2; try simp only [sdV, Sd.no])
    refine hK.out _ _ ⟨(HY.out _ (hO.suf sfx)).2.1, (HY.out _ (hO.suf sfx)).2.2.1, (HY.out _ (hO.suf sfx)).2.2.2.2.1, (HY.out _ (hO.suf sfx)).2.2.2.2.2.1, (HY.out _ (hO.suf sfx)).2.2.2.2.2.2⟩ (fun hS => ?_)
    clear hK K
    try simp only [Act.put, sb, s0, sz]
    refine tV 6 ⟨some 22, .binOp .neq 36 (.tmp 17) (.tmp 21) 36, _, _, _, none⟩ hS ?_
    refine tV 7 ⟨some 15, .assign (.tmp 22), _, _, _, none⟩ hS ?_
    refine wpAnyH_done (by kernel_rfl) ?_ _
    all_goals
      clear hS hE
      have hE := hO
      clear hO
      go_wp2_with (first
        | go_skip
        | ((with_reducible (show Go.wpList _ _ _ (Go.Oper.mk _ (.store _ _ _) _ _ _ _ :: _) _ _)); refine wpl_st1 hE 1 rfl rfl rfl rfl rfl (by first | (simp [go_sem]; done) | (simp [go_sem]; rfl)) rfl rfl (by simp) ?_; clear hE; intro w7 hE; simp only [List.set_cons_zero, List.set_cons_succ] at hE))
      refine bodyPost_ret (results_none rfl _ _ _) rfl ?_
      exact ⟨_, rfl, ao, c, hE⟩
  | true =>
    cases wt with
    | false =>
      simp only [Bool.and_true, if_true, Bool.false_eq_true, if_false, Option.toList, List.append_nil]
      go_enter Tryd.func45, Tryd.ntmps45
      go_wp2
      have hO := hE.drew
      refine wp_region_held_drew (S := (fun w' => ((Instr.loadAt 9 (.pointer (some ⟨b_y, oy, none⟩))).run Tryd.prog w' = .ok (.string ⟨yp.toArray⟩) w') ∧ ((Instr.loadAt 36 (.pointer (some ⟨b_y, oy + 1, none⟩))).run Tryd.prog w' = .ok (.agg #[.bool yt, .bool yd, .string ⟨yb.toArray⟩]) w') ∧ ((Instr.loadAt 4 (.pointer (some ⟨b_y, oy + 4, none⟩))).run Tryd.prog w' = .ok (.bool false) w') ∧ ((Instr.loadAt 4 (.pointer (some ⟨b_y, oy + 4 + 1, none⟩))).run Tryd.prog w' = .ok (.bool wd) w') ∧ ((Instr.loadAt 9 (.pointer (some ⟨b_y, oy + 4 + 2, none⟩))).run Tryd.prog w' = .ok (.string ⟨wb.toArray⟩) w'))) (by kernel_rfl) ⟨(HY.out _ (hO.suf sfx)).2.1, (HY.out _ (hO.suf sfx)).2.2.1, (HY.out _ (hO.suf sfx)).2.2.2.2.1, (HY.out _ (hO.suf sfx)).2.2.2.2.2.1, (HY.out _ (hO.suf sfx)).2.2.2.2.2.2⟩ (fun hS => ?_)
      refine tV 0 ⟨some 16, .move (.tmp 0), _, _, _, none⟩ hS ?_
      refine tV 2 ⟨some 18, .move (.tmp 1), _, _, _, none⟩ hS ?_
      refine tV 3 ⟨some 19, .nilCheck (.tmp 18), _, _, _, none⟩ hS ?_
      refine tV 4 ⟨some 20, .fieldAddr 65 (.tmp 19) 1, _, _, _, none⟩ hS ?_
      refine tL 5 ⟨some 21, .load 36 (.tmp 20), _, _, _, none⟩ hS ?_
      refine wpAnyH_ready (rs := [1]) (by kernel_rfl) (by simp) ?_
      refine (AllReadyH.cons (o := ⟨some 17, .call { callee := .value (.func 33), args := #[.tmp 16], argTypes := #[70] }, _, _, _, none⟩) rfl (fun K hK => ?_) AllReadyH.nil)
      (go_simp; refine (HEN.out _ _ sfx hO).mono ?_; clear hO; rintro e w5 ⟨v, h1, h2, hO⟩; cases h1; cases h2; try simp only [sdV, Sd.no])
      refine hK.out _ _ ⟨(HY.out _ (hO.suf sfx)).2.1, (HY.out _ (hO.suf sfx)).2.2.1, (HY.out _ (hO.suf sfx)).2.2.2.2.1, (HY.out _ (hO.suf sfx)).2.2.2.2.2.1, (HY.out _ (hO.suf sfx)).2.2.2.2.2.2⟩ (fun hS => ?_)
      clear hK K
      try simp only [Act.put, sb, s0, sz]
      refine tV 6 ⟨some 22, .binOp .neq 36 (.tmp 17) (.tmp 21) 36, _, _, _, none⟩ hS ?_
      refine tV 7 ⟨some 15, .assign (.tmp 22), _, _, _, none⟩ hS ?_
      refine wpAnyH_done (by kernel_rfl) ?_ _
      all_goals
        clear hS hE
        have hE := hO
        clear hO
        have hld := (HY.out _ (hE.suf sfx)).2.2.2.2.1
        go_wp2
        refine bodyPost_ret (results_none rfl _ _ _) rfl ?_
        exact ⟨_, rfl, ao, c, hE⟩
    | true =>
      simp only [Bool.and_true, if_true, Option.toList]
      go_enter Tryd.func45, Tryd.ntmps45
      go_wp2
      have hO := hE.drew
      refine wp_region_held_drew (S := (fun w' => ((Instr.loadAt 9 (.pointer (some ⟨b_y, oy, none⟩))).run Tryd.prog w' = .ok (.string ⟨yp.toArray⟩) w') ∧ ((Instr.loadAt 36 (.pointer (some ⟨b_y, oy + 1, none⟩))).run Tryd.prog w' = .ok (.agg #[.bool yt, .bool yd, .string ⟨yb.toArray⟩]) w') ∧ ((Instr.loadAt 4 (.pointer (some ⟨b_y, oy + 4, none⟩))).run Tryd.prog w' = .ok (.bool true) w') ∧ ((Instr.loadAt 4 (.pointer (some ⟨b_y, oy + 4 + 1, none⟩))).run Tryd.prog w' = .ok (.bool wd) w') ∧ ((Instr.loadAt 9 (.pointer (some ⟨b_y, oy + 4 + 2, none⟩))).run Tryd.prog w' = .ok (.string ⟨wb.toArray⟩) w'))) (by kernel_rfl) ⟨(HY.out _ (hO.suf sfx)).2.1, (HY.out _ (hO.suf sfx)).2.2.1, (HY.out _ (hO.suf sfx)).2.2.2.2.1, (HY.out _ (hO.suf sfx)).2.2.2.2.2.1, (HY.out _ (hO.suf sfx)).2.2.2.2.2.2⟩ (fun hS => ?_)
      refine tV 0 ⟨some 16, .move (.tmp 0), _, _, _, none⟩ hS ?_
      refine tV 2 ⟨some 18, .move (.tmp 1), _, _, _, none⟩ hS ?_
      refine tV 3 ⟨some 19, .nilCheck (.tmp 18), _, _, _, none⟩ hS ?_
      refine tV 4 ⟨some 20, .fieldAddr 65 (.tmp 19) 1, _, _, _, none⟩ hS ?_
      refine tL 5 ⟨some 21, .load 36 (.tmp 20), _, _, _, none⟩ hS ?_
      refine wpAnyH_ready (rs := [1]) (by kernel_rfl) (by simp) ?_
      refine (AllReadyH.cons (o := ⟨some 17, .call { callee := .value (.func 33), args := #[.tmp 16], argTypes := #[70] }, _, _, _, none⟩) rfl (fun K hK => ?_) AllReadyH.nil)
      (go_simp; refine (HEN.out _ _ sfx hO).mono ?_; clear hO; rintro e w5 ⟨v, h1, h2, hO⟩; cases h1; cases h2; try simp only [sdV, Sd.no])
      refine hK.out _ _ ⟨(HY.out _ (hO.suf sfx)).2.1, (HY.out _ (hO.suf sfx)).2.2.1, (HY.out _ (hO.suf sfx)).2.2.2.2.1, (HY.out _ (hO.suf sfx)).2.2.2.2.2.1, (HY.out _ (hO.suf sfx)).2.2.2.2.2.2⟩ (fun hS => ?_)
      clear hK K
      try simp only [Act.put, sb, s0, sz]
      refine tV 6 ⟨some 22, .binOp .neq 36 (.tmp 17) (.tmp 21) 36, _, _, _, none⟩ hS ?_
      refine tV 7 ⟨some 15, .assign (.tmp 22), _, _, _, none⟩ hS ?_
      refine wpAnyH_done (by kernel_rfl) ?_ _
      all_goals
        clear hS hE
        have hE := hO
        clear hO
        have hld := (HY.out _ (hE.suf sfx)).2.2.2.2.1
        go_wp2
        have hO := hE.drew
        refine wp_region_held_drew (S := (fun w' => ((Instr.loadAt 9 (.pointer (some ⟨b_y, oy, none⟩))).run Tryd.prog w' = .ok (.string ⟨yp.toArray⟩) w') ∧ ((Instr.loadAt 36 (.pointer (some ⟨b_y, oy + 1, none⟩))).run Tryd.prog w' = .ok (.agg #[.bool yt, .bool yd, .string ⟨yb.toArray⟩]) w') ∧ ((Instr.loadAt 4 (.pointer (some ⟨b_y, oy + 4, none⟩))).run Tryd.prog w' = .ok (.bool true) w') ∧ ((Instr.loadAt 4 (.pointer (some ⟨b_y, oy + 4 + 1, none⟩))).run Tryd.prog w' = .ok (.bool wd) w') ∧ ((Instr.loadAt 9 (.pointer (some ⟨b_y, oy + 4 + 2, none⟩))).run Tryd.prog w' = .ok (.string ⟨wb.toArray⟩) w'))) (by kernel_rfl) ⟨(HY.out _ (hO.suf sfx)).2.1, (HY.out _ (hO.suf sfx)).2.2.1, (HY.out _ (hO.suf sfx)).2.2.2.2.1, (HY.out _ (hO.suf sfx)).2.2.2.2.2.1, (HY.out _ (hO.suf sfx)).2.2.2.2.2.2⟩ (fun hS => ?_)
        refine tV 1 ⟨some 30, .move (.tmp 1), _, _, _, none⟩ hS ?_
        refine tV 2 ⟨some 31, .nilCheck (.tmp 30), _, _, _, none⟩ hS ?_
        refine tV 3 ⟨some 32, .fieldAddr 65 (.tmp 31) 0, _, _, _, none⟩ hS ?_
        refine tL 4 ⟨some 33, .load 9 (.tmp 32), _, _, _, none⟩ hS ?_
        refine tV 5 ⟨some 34, .move (.tmp 1), _, _, _, none⟩ hS ?_
        refine tV 6 ⟨some 35, .nilCheck (.tmp 34), _, _, _, none⟩ hS ?_
        refine tV 7 ⟨some 36, .fieldAddr 65 (.tmp 35) 2, _, _, _, none⟩ hS ?_
        refine tV 8 ⟨some 37, .fieldAddr 36 (.tmp 36) 1, _, _, _, none⟩ hS ?_
        refine tL 9 ⟨some 38, .load 4 (.tmp 37), _, _, _, none⟩ hS ?_
        refine tV 10 ⟨some 39, .move (.tmp 1), _, _, _, none⟩ hS ?_
        refine tV 11 ⟨some 40, .nilCheck (.tmp 39), _, _, _, none⟩ hS ?_
        refine tV 12 ⟨some 41, .fieldAddr 65 (.tmp 40) 2, _, _, _, none⟩ hS ?_
        refine tV 13 ⟨some 42, .fieldAddr 36 (.tmp 41) 2, _, _, _, none⟩ hS ?_
        refine tL 14 ⟨some 43, .load 9 (.tmp 42), _, _, _, none⟩ hS ?_
        refine tV 15 ⟨some 44, .build 63 #[(0, .tmp 33), (1, .tmp 38), (2, .tmp 43)], _, _, _, none⟩ hS ?_
        refine wpAnyH_ready (rs := [0, 16]) (by kernel_rfl) (by simp) ?_
        refine (AllReadyH.cons (o := ⟨some 29, .load 22 (.tmp 2), _, _, _, none⟩) rfl (fun K hK => ?_) (AllReadyH.cons (o := ⟨some 45, .buildSlice 22 1 #[(0, .tmp 44)], _, _, _, none⟩) rfl (fun K hK => ?_) AllReadyH.nil))
        focus
          (first | (refine step_load1 hO 0 rfl (by rfl) (by rfl) (by rfl) (by simp [go_sem]) rfl ?_) | (refine step_load1 hO 1 rfl (by rfl) (by rfl) (by rfl) (by simp [go_sem]) rfl ?_))
          refine hK.out _ _ ⟨(HY.out _ (hO.suf sfx)).2.1, (HY.out _ (hO.suf sfx)).2.2.1, (HY.out _ (hO.suf sfx)).2.2.2.2.1, (HY.out _ (hO.suf sfx)).2.2.2.2.2.1, (HY.out _ (hO.suf sfx)).2.2.2.2.2.2⟩ (fun hS => ?_)
          clear hK K
          try simp only [Act.put, sb, s0, sz]
          refine wpAnyH_ready (rs := [16]) (by kernel_rfl) (by simp) ?_
          refine (AllReadyH.cons (o := ⟨some 45, .buildSlice 22 1 #[(0, .tmp 44)], _, _, _, none⟩) rfl (fun K hK => ?_) AllReadyH.nil)
          (refine step_build1 hO rfl (by rfl) (xs := enC ⟨yp, wd, wb⟩) (by rfl) Tryd.underlying22 zs_en Tryd.sizeOf63 (by decide) (by decide) rfl ?_; clear hO; intro b9 w7 hO)
          refine hK.out _ _ ⟨(HY.out _ (hO.suf sfx)).2.1, (HY.out _ (hO.suf sfx)).2.2.1, (HY.out _ (hO.suf sfx)).2.2.2.2.1, (HY.out _ (hO.suf sfx)).2.2.2.2.2.1, (HY.out _ (hO.suf sfx)).2.2.2.2.2.2⟩ (fun hS => ?_)
          clear hK K
          try simp only [Act.put, sb, s0, sz]
          refine wpAnyH_ready (rs := [17]) (by kernel_rfl) (by simp) ?_
          refine (AllReadyH.cons (o := ⟨some 46, .call { callee := .builtin .append, args := #[.tmp 29, .tmp 45], argTypes := #[22, 22] }, _, _, _, none⟩) rfl (fun K hK => ?_) AllReadyH.nil)
          (refine step_appendG hO 3 rfl rfl (by rfl) (by rfl) (by rfl) Tryd.underlying22 info_en (by decide) (m := 1) (news := enC ⟨yp, wd, wb⟩) (reads_pt hO 0 rfl (off := 0) (fun j u hu => by rw [Nat.zero_add, List.getElem?_toArray]; exact hu)) rfl (enC_one _) (by omega) (by omega) ?_; clear hO; intro a7 c7 w8 hO; simp only [List.set_cons_zero, List.set_cons_succ] at hO)
          refine hK.out _ _ ⟨(HY.out _ (hO.suf sfx)).2.1, (HY.out _ (hO.suf sfx)).2.2.1, (HY.out _ (hO.suf sfx)).2.2.2.2.1, (HY.out _ (hO.suf sfx)).2.2.2.2.2.1, (HY.out _ (hO.suf sfx)).2.2.2.2.2.2⟩ (fun hS => ?_)
          clear hK K
          try simp only [Act.put, sb, s0, sz]
          refine wpAnyH_ready (rs := [18]) (by kernel_rfl) (by simp) ?_
          refine (AllReadyH.cons (o := ⟨none, .store 22 (.tmp 2) (.tmp 46), _, _, _, none⟩) rfl (fun K hK => ?_) AllReadyH.nil)
          (refine step_setC hO 1 rfl (by rfl) (by rfl) (by rfl) (v := .slice a7 (out.length + 1) c7) (by rfl) (by first | (simp [go_sem]; done) | (simp [go_sem]; rfl)) rfl rfl (by simp) ?_; clear hO; intro w9 hO; simp only [List.set_cons_zero, List.set_cons_succ] at hO)
          refine hK.out _ _ ⟨(HY.out _ (hO.suf sfx)).2.1, (HY.out _ (hO.suf sfx)).2.2.1, (HY.out _ (hO.suf sfx)).2.2.2.2.1, (HY.out _ (hO.suf sfx)).2.2.2.2.2.1, (HY.out _ (hO.suf sfx)).2.2.2.2.2.2⟩ (fun hS => ?_)
          clear hK K
          try simp only [Act.put, sb, s0, sz]
          refine wpAnyH_done (by kernel_rfl) ?_ _
        rotate_right
        focus
          (refine step_build1 hO rfl (by rfl) (xs := enC ⟨yp, wd, wb⟩) (by rfl) Tryd.underlying22 zs_en Tryd.sizeOf63 (by decide) (by decide) rfl ?_; clear hO; intro b9 w7 hO)
          refine hK.out _ _ ⟨(HY.out _ (hO.suf sfx)).2.1, (HY.out _ (hO.suf sfx)).2.2.1, (HY.out _ (hO.suf sfx)).2.2.2.2.1, (HY.out _ (hO.suf sfx)).2.2.2.2.2.1, (HY.out _ (hO.suf sfx)).2.2.2.2.2.2⟩ (fun hS => ?_)
          clear hK K
          try simp only [Act.put, sb, s0, sz]
          refine wpAnyH_ready (rs := [0]) (by kernel_rfl) (by simp) ?_
          refine (AllReadyH.cons (o := ⟨some 29, .load 22 (.tmp 2), _, _, _, none⟩) rfl (fun K hK => ?_) AllReadyH.nil)
          (first | (refine step_load1 hO 0 rfl (by rfl) (by rfl) (by rfl) (by simp [go_sem]) rfl ?_) | (refine step_load1 hO 1 rfl (by rfl) (by rfl) (by rfl) (by simp [go_sem]) rfl ?_))
          refine hK.out _ _ ⟨(HY.out _ (hO.suf sfx)).2.1, (HY.out _ (hO.suf sfx)).2.2.1, (HY.out _ (hO.suf sfx)).2.2.2.2.1, (HY.out _ (hO.suf sfx)).2.2.2.2.2.1, (HY.out _ (hO.suf sfx)).2.2.2.2.2.2⟩ (fun hS => ?_)
          clear hK K
          try simp only [Act.put, sb, s0, sz]
          refine wpAnyH_ready (rs := [17]) (by kernel_rfl) (by simp) ?_
          refine (AllReadyH.cons (o := ⟨some 46, .call { callee := .builtin .append, args := #[.tmp 29, .tmp 45], argTypes := #[22, 22] }, _, _, _, none⟩) rfl (fun K hK => ?_) AllReadyH.nil)
          (refine step_appendG hO 3 rfl rfl (by rfl) (by rfl) (by rfl) Tryd.underlying22 info_en (by decide) (m := 1) (news := enC ⟨yp, wd, wb⟩) (reads_pt hO 0 rfl (off := 0) (fun j u hu => by rw [Nat.zero_add, List.getElem?_toArray]; exact hu)) rfl (enC_one _) (by omega) (by omega) ?_; clear hO; intro a7 c7 w8 hO; simp only [List.set_cons_zero, List.set_cons_succ] at hO)
          refine hK.out _ _ ⟨(HY.out _ (hO.suf sfx)).2.1, (HY.out _ (hO.suf sfx)).2.2.1, (HY.out _ (hO.suf sfx)).2.2.2.2.1, (HY.out _ (hO.suf sfx)).2.2.2.2.2.1, (HY.out _ (hO.suf sfx)).2.2.2.2.2.2⟩ (fun hS => ?_)
          clear hK K
          try simp only [Act.put, sb, s0, sz]
          refine wpAnyH_ready (rs := [18]) (by kernel_rfl) (by simp) ?_
          refine (AllReadyH.cons (o := ⟨none, .store 22 (.tmp 2) (.tmp 46), _, _, _, none⟩) rfl (fun K hK => ?_) AllReadyH.nil)
          (refine step_setC hO 1 rfl (by rfl) (by rfl) (by rfl) (v := .slice a7 (out.length + 1) c7) (by rfl) (by first | (simp [go_sem]; done) | (simp [go_sem]; rfl)) rfl rfl (by simp) ?_; clear hO; intro w9 hO; simp only [List.set_cons_zero, List.set_cons_succ] at hO)
          refine hK.out _ _ ⟨(HY.out _ (hO.suf sfx)).2.1, (HY.out _ (hO.suf sfx)).2.2.1, (HY.out _ (hO.suf sfx)).2.2.2.2.1, (HY.out _ (hO.suf sfx)).2.2.2.2.2.1, (HY.out _ (hO.suf sfx)).2.2.2.2.2.2⟩ (fun hS => ?_)
          clear hK K
          try simp only [Act.put, sb, s0, sz]
          refine wpAnyH_done (by kernel_rfl) ?_ _
        all_goals
          clear hS hE
          have hE := hO.tail
          clear hO
          go_wp2
          refine bodyPost_ret (results_none rfl _ _ _) rfl ?_
          refine ⟨_, rfl, a7, c7, ?_⟩
          have e1 : (out ++ [(⟨yp, wd, wb⟩ : En)]).length = out.length + 1 := by simp
          unfold boA
          rw [e1, ← rowEn_add]
          exact hE
set_option maxRecDepth 100000 in
set_option maxHeartbeats 4000000 in
attribute [-go_sem] Instr.loadAt Go.run_equalIn_agg in
theorem app1_xc {L0 : List HProp} {x : En} {bx ox : Nat} (hx : ∀ w, Ent L0 w → ∀ j v, (enC x)[j]? = some v → w.cell? ⟨bx, ox + j, none⟩ = some v) {y : Ch} {b_y oy : Nat} (hy : ∀ w, Ent L0 w → ∀ j v, (chC y)[j]? = some v → w.cell? ⟨b_y, oy + j, none⟩ = some v) {p1 p2 : Nat} {ao : Option Addr} {c : Nat} {out : List En} {ok : Bool} (hn : out.length ≤ 1000000) {w : World} (hE : Ent (boA p1 p2 ao c out ok L0) w) :
    Calls Tryd.prog 45 #[.pointer (some ⟨bx, ox, none⟩), .pointer (some ⟨b_y, oy, none⟩), .pointer (some ⟨p1, 0, none⟩), .pointer (some ⟨p2, 0, none⟩)] w (Ret fun _ w' => A1Post p1 p2 (out ++ (stepA (some x, some y)).toList) (ok && fitA (some x) (some y)) L0 w') := by
  unfold boA at hE
  have HX := SL.hid hx
  clear hx
  have HY := SL.hid (fun (w : World) (h : Ent L0 w) => ptr_ch hy h)
  clear hy
  have HEN := SL.hid (fun (L : List HProp) (w : World) (hs : L0 <:+ L) (hO : Ent L w) => entry_some (x := x) (b := bx) (off := ox) (ent_facts HX.out hs) hO)
  obtain ⟨yp, ⟨yt, yd, yb⟩, ⟨wt, wd, wb⟩⟩ := y
  simp only [chC, sdC] at HY
  simp only [sdV, Sd.no] at HEN
  have hEq := fun w => eqSd 9998 ⟨true, x.dir, x.data⟩ ⟨yt, yd, yb⟩ w
  have hk : stepA (some x, some ⟨yp, ⟨yt, yd, yb⟩, ⟨wt, wd, wb⟩⟩) = if ((⟨true, x.dir, x.data⟩ : Sd) == ⟨yt, yd, yb⟩) = true then (if wt = true then some ⟨yp, wd, wb⟩ else none) else none := rfl
  have hf : fitA (some x) (some ⟨yp, ⟨yt, yd, yb⟩, ⟨wt, wd, wb⟩⟩) = ((⟨true, x.dir, x.data⟩ : Sd) == ⟨yt, yd, yb⟩) := rfl
  rw [hk, hf]
  clear hk hf
  simp only [sdC] at hEq
  generalize ((⟨true, x.dir, x.data⟩ : Sd) == ⟨yt, yd, yb⟩) = eq at *
  cases eq with
  | false =>
    simp only [Bool.and_false, Bool.false_eq_true, if_false, Option.toList, List.append_nil]
    go_enter Tryd.func45, Tryd.ntmps45
    go_wp2
    have hO := hE.drew
    refine wp_region_held_drew (S := (fun w' => ((Instr.loadAt 9 (.pointer (some ⟨b_y, oy, none⟩))).run Tryd.prog w' = .ok (.string ⟨yp.toArray⟩) w') ∧ ((Instr.loadAt 36 (.pointer (some ⟨b_y, oy + 1, none⟩))).run Tryd.prog w' = .ok (.agg #[.bool yt, .bool yd, .string ⟨yb.toArray⟩]) w') ∧ ((Instr.loadAt 4 (.pointer (some ⟨b_y, oy + 4, none⟩))).run Tryd.prog w' = .ok (.bool wt) w') ∧ ((Instr.loadAt 4 (.pointer (some ⟨b_y, oy + 4 + 1, none⟩))).run Tryd.prog w' = .ok (.bool wd) w') ∧ ((Instr.loadAt 9 (.pointer (some ⟨b_y, oy + 4 + 2, none⟩))).run Tryd.prog w' = .ok (.string ⟨wb.toArray⟩) w'))) (by kernel_rfl) ⟨(HY.out _ (hO.suf sfx)).2.1, (HY.out _ (hO.suf sfx)).2.2.1, (HY.out _ (hO.suf sfx)).2.2.2.2.1, (HY.out _ (hO.suf sfx)).2.2.2.2.2.1, (HY.out _ (hO.suf sfx)).2.2.2.2.2.2⟩ (fun hS => ?_)
    refine tV 0 ⟨some 16, .move (.tmp 0), _, _, _, none⟩ hS ?_
    refine tV 2 ⟨some 18, .move (.tmp 1), _, _, _, none⟩ hS ?_
    refine tV 3 ⟨some 19, .nilCheck (.tmp 18), _, _, _, none⟩ hS ?_
    refine tV 4 ⟨some 20, .fieldAddr 65 (.tmp 19) 1, _, _, _, none⟩ hS ?_
    refine tL 5 ⟨some 21, .load 36 (.tmp 20), _, _, _, none⟩ hS ?_
    refine wpAnyH_ready (rs := [1]) (by kernel_rfl) (by simp) ?_
    refine (AllReadyH.cons (o := ⟨some 17, .call { callee := .value (.func 33), args := #[.tmp 16], argTypes := #[70] }, _, _, _, none⟩) rfl (fun K hK => ?_) AllReadyH.nil)
    (go_simp; refine (HEN.out _ _ sfx hO).mono ?_; clear hO; rintro e w5 ⟨v, h1, h2, hO⟩; cases h1; cases h2; try simp only [sdV, Sd.no])
    refine hK.out _ _ ⟨(HY.out _ (hO.suf sfx)).2.1, (HY.out _ (hO.suf sfx)).2.2.1, (HY.out _ (hO.suf sfx)).2.2.2.2.1, (HY.out _ (hO.suf sfx)).2.2.2.2.2.1, (HY.out _ (hO.suf sfx)).2.2.2.2.2.2⟩ (fun hS => ?_)
    clear hK K
    try simp only [Act.put, sb, s0, sz]
    refine tV 6 ⟨some 22, .binOp .neq 36 (.tmp 17) (.tmp 21) 36, _, _, _, none⟩ hS ?_
    refine tV 7 ⟨some 15, .assign (.tmp 22), _, _, _, none⟩ hS ?_
    refine wpAnyH_done (by kernel_rfl) ?_ _
    all_goals
      clear hS hE
      have hE := hO
      clear hO
      go_wp2_with (first
        | go_skip
        | ((with_reducible (show Go.wpList _ _ _ (Go.Oper.mk _ (.store _ _ _) _ _ _ _ :: _) _ _)); refine wpl_st1 hE 1 rfl rfl rfl rfl rfl (by first | (simp [go_sem]; done) | (simp [go_sem]; rfl)) rfl rfl (by simp) ?_; clear hE; intro w7 hE; simp only [List.set_cons_zero, List.set_cons_succ] at hE))
      refine bodyPost_ret (results_none rfl _ _ _) rfl ?_
      exact ⟨_, rfl, ao, c, hE⟩
  | true =>
    cases wt with
    | false =>
      simp only [Bool.and_true, if_true, Bool.false_eq_true, if_false, Option.toList, List.append_nil]
      go_enter Tryd.func45, Tryd.ntmps45
      go_wp2
      have hO := hE.drew
      refine wp_region_held_drew (S := (fun w' => ((Instr.loadAt 9 (.pointer (some ⟨b_y, oy, none⟩))).run Tryd.prog w' = .ok (.string ⟨yp.toArray⟩) w') ∧ ((Instr.loadAt 36 (.pointer (some ⟨b_y, oy + 1, none⟩))).run Tryd.prog w' = .ok (.agg #[.bool yt, .bool yd, .string ⟨yb.toArray⟩]) w') ∧ ((Instr.loadAt 4 (.pointer (some ⟨b_y, oy + 4, none⟩))).run Tryd.prog w' = .ok (.bool false) w') ∧ ((Instr.loadAt 4 (.pointer (some ⟨b_y, oy + 4 + 1, none⟩))).run Tryd.prog w' = .ok (.bool wd) w') ∧ ((Instr.loadAt 9 (.pointer (some ⟨b_y, oy + 4 + 2, none⟩))).run Tryd.prog w' = .ok (.string ⟨wb.toArray⟩) w'))) (by kernel_rfl) ⟨(HY.out _ (hO.suf sfx)).2.1, (HY.out _ (hO.suf sfx)).2.2.1, (HY.out _ (hO.suf sfx)).2.2.2.2.1, (HY.out _ (hO.suf sfx)).2.2.2.2.2.1, (HY.out _ (hO.suf sfx)).2.2.2.2.2.2⟩ (fun hS => ?_)
      refine tV 0 ⟨some 16, .move (.tmp 0), _, _, _, none⟩ hS ?_
      refine tV 2 ⟨some 18, .move (.tmp 1), _, _, _, none⟩ hS ?_
      refine tV 3 ⟨some 19, .nilCheck (.tmp 18), _, _, _, none⟩ hS ?_
      refine tV 4 ⟨some 20, .fieldAddr 65 (.tmp 19) 1, _, _, _, none⟩ hS ?_
      refine tL 5 ⟨some 21, .load 36 (.tmp 20), _, _, _, none⟩ hS ?_
      refine wpAnyH_ready (rs := [1]) (by kernel_rfl) (by simp) ?_
      refine (AllReadyH.cons (o := ⟨some 17, .call { callee := .value (.func 33), args := #[.tmp 16], argTypes := #[70] }, _, _, _, none⟩) rfl (fun K hK => ?_) AllReadyH.nil)
      (go_simp; refine (HEN.out _ _ sfx hO).mono ?_; clear hO; rintro e w5 ⟨v, h1, h2, hO⟩; cases h1; cases h2; try simp only [sdV, Sd.no])
      refine hK.out _ _ ⟨(HY.out _ (hO.suf sfx)).2.1, (HY.out _ (hO.suf sfx)).2.2.1, (HY.out _ (hO.suf sfx)).2.2.2.2.1, (HY.out _ (hO.suf sfx)).2.2.2.2.2.1, (HY.out _ (hO.suf sfx)).2.2.2.2.2.2⟩ (fun hS => ?_)
      clear hK K
      try simp only [Act.put, sb, s0, sz]
      refine tV 6 ⟨some 22, .binOp .neq 36 (.tmp 17) (.tmp 21) 36, _, _, _, none⟩ hS ?_
      refine tV 7 ⟨some 15, .assign (.tmp 22), _, _, _, none⟩ hS ?_
      refine wpAnyH_done (by kernel_rfl) ?_ _
      all_goals
        clear hS hE
        have hE := hO
        clear hO
        have hld := (HY.out _ (hE.suf sfx)).2.2.2.2.1
        go_wp2
        refine bodyPost_ret (results_none rfl _ _ _) rfl ?_
        exact ⟨_, rfl, ao, c, hE⟩
    | true =>
      simp only [Bool.and_true, if_true, Option.toList]
      go_enter Tryd.func45, Tryd.ntmps45
      go_wp2
      have hO := hE.drew
      refine wp_region_held_drew (S := (fun w' => ((Instr.loadAt 9 (.pointer (some ⟨b_y, oy, none⟩))).run Tryd.prog w' = .ok (.string ⟨yp.toArray⟩) w') ∧ ((Instr.loadAt 36 (.pointer (some ⟨b_y, oy + 1, none⟩))).run Tryd.prog w' = .ok (.agg #[.bool yt, .bool yd, .string ⟨yb.toArray⟩]) w') ∧ ((Instr.loadAt 4 (.pointer (some ⟨b_y, oy + 4, none⟩))).run Tryd.prog w' = .ok (.bool true) w') ∧ ((Instr.loadAt 4 (.pointer (some ⟨b_y, oy + 4 + 1, none⟩))).run Tryd.prog w' = .ok (.bool wd) w') ∧ ((Instr.loadAt 9 (.pointer (some ⟨b_y, oy + 4 + 2, none⟩))).run Tryd.prog w' = .ok (.string ⟨wb.toArray⟩) w'))) (by kernel_rfl) ⟨(HY.out _ (hO.suf sfx)).2.1, (HY.out _ (hO.suf sfx)).2.2.1, (HY.out _ (hO.suf sfx)).2.2.2.2.1, (HY.out _ (hO.suf sfx)).2.2.2.2.2.1, (HY.out _ (hO.suf sfx)).2.2.2.2.2.2⟩ (fun hS => ?_)
      refine tV 0 ⟨some 16, .move (.tmp 0), _, _, _, none⟩ hS ?_
      refine tV 2 ⟨some 18, .move (.tmp 1), _, _, _, none⟩ hS ?_
      refine tV 3 ⟨some 19, .nilCheck (.tmp 18), _, _, _, none⟩ hS ?_
      refine tV 4 ⟨some 20, .fieldAddr 65 (.tmp 19) 1, _, _, _, none⟩ hS ?_
      refine tL 5 ⟨some 21, .load 36 (.tmp 20), _, _, _, none⟩ hS ?_
      refine wpAnyH_ready (rs := [1]) (by kernel_rfl) (by simp) ?_
      refine (AllReadyH.cons (o := ⟨some 17, .call { callee := .value (.func 33), args := #[.tmp 16], argTypes := #[70] }, _, _, _, none⟩) rfl (fun K hK => ?_) AllReadyH.nil)
      (go_simp; refine (HEN.out _ _ sfx hO).mono ?_; clear hO; rintro e w5 ⟨v, h1, h2, hO⟩; cases h1; cases h2; try simp only [sdV, Sd.no])
      refine hK.out _ _ ⟨(HY.out _ (hO.suf sfx)).2.1, (HY.out _ (hO.suf sfx)).2.2.1, (HY.out _ (hO.suf sfx)).2.2.2.2.1, (HY.out _ (hO.suf sfx)).2.2.2.2.2.1, (HY.out _ (hO.suf sfx)).2.2.2.2.2.2⟩ (fun hS => ?_)
      clear hK K
      try simp only [Act.put, sb, s0, sz]
      refine tV 6 ⟨some 22, .binOp .neq 36 (.tmp 17) (.tmp 21) 36, _, _, _, none⟩ hS ?_
      refine tV 7 ⟨some 15, .assign (.tmp 22), _, _, _, none⟩ hS ?_
      refine wpAnyH_done (by kernel_rfl) ?_ _
      all_goals
        clear hS hE
        have hE := hO
        clear hO
        have hld := (HY.out _ (hE.suf sfx)).2.2.2.2.1
        go_wp2
        have hO := hE.drew
        refine wp_region_held_drew (S := (fun w' => ((Instr.loadAt 9 (.pointer (some ⟨b_y, oy, none⟩))).run Tryd.prog w' = .ok (.string ⟨yp.toArray⟩) w') ∧ ((Instr.loadAt 36 (.pointer (some ⟨b_y, oy + 1, none⟩))).run Tryd.prog w' = .ok (.agg #[.bool yt, .bool yd, .string ⟨yb.toArray⟩]) w') ∧ ((Instr.loadAt 4 (.pointer (some ⟨b_y, oy + 4, none⟩))).run Tryd.prog w' = .ok (.bool true) w') ∧ ((Instr.loadAt 4 (.pointer (some ⟨b_y, oy + 4 + 1, none⟩))).run Tryd.prog w' = .ok (.bool wd) w') ∧ ((Instr.loadAt 9 (.pointer (some ⟨b_y, oy + 4 + 2, none⟩))).run Tryd.prog w' = .ok (.string ⟨wb.toArray⟩) w'))) (by kernel_rfl) ⟨(HY.out _ (hO.suf sfx)).2.1, (HY.out _ (hO.suf sfx)).2.2.1, (HY.out _ (hO.suf sfx)).2.2.2.2.1, (HY.out _ (hO.suf sfx)).2.2.2.2.2.1, (HY.out _ (hO.suf sfx)).2.2.2.2.2.2⟩ (fun hS => ?_)
        refine tV 1 ⟨some 30, .move (.tmp 1), _, _, _, none⟩ hS ?_
        refine tV 2 ⟨some 31, .nilCheck (.tmp 30), _, _, _, none⟩ hS ?_
        refine tV 3 ⟨some 32, .fieldAddr 65 (.tmp 31) 0, _, _, _, none⟩ hS ?_
        refine tL 4 ⟨some 33, .load 9 (.tmp 32), _, _, _, none⟩ hS ?_
        refine tV 5 ⟨some 34, .move (.tmp 1), _, _, _, none⟩ hS ?_
        refine tV 6 ⟨some 35, .nilCheck (.tmp 34), _, _, _, none⟩ hS ?_
        refine tV 7 ⟨some 36, .fieldAddr 65 (.tmp 35) 2, _, _, _, none⟩ hS ?_
        refine tV 8 ⟨some 37, .fieldAddr 36 (.tmp 36) 1, _, _, _, none⟩ hS ?_
        refine tL 9 ⟨some 38, .load 4 (.tmp 37), _, _, _, none⟩ hS ?_
        refine tV 10 ⟨some 39, .move (.tmp 1), _, _, _, none⟩ hS ?_
        refine tV 11 ⟨some 40, .nilCheck (.tmp 39), _, _, _, none⟩ hS ?_
        refine tV 12 ⟨some 41, .fieldAddr 65 (.tmp 40) 2, _, _, _, none⟩ hS ?_
        refine tV 13 ⟨some 42, .fieldAddr 36 (.tmp 41) 2, _, _, _, none⟩ hS ?_
        refine tL 14 ⟨some 43, .load 9 (.tmp 42), _, _, _, none⟩ hS ?_
        refine tV 15 ⟨some 44, .build 63 #[(0, .tmp 33), (1, .tmp 38), (2, .tmp 43)], _, _, _, none⟩ hS ?_
        refine wpAnyH_ready (rs := [0, 16]) (by kernel_rfl) (by simp) ?_
        refine (AllReadyH.cons (o := ⟨some 29, .load 22 (.tmp 2), _, _, _, none⟩) rfl (fun K hK => ?_) (AllReadyH.cons (o := ⟨some 45, .buildSlice 22 1 #[(0, .tmp 44)], _, _, _, none⟩) rfl (fun K hK => ?_) AllReadyH.nil))
        focus
          (first | (refine step_load1 hO 0 rfl (by rfl) (by rfl) (by rfl) (by simp [go_sem]) rfl ?_) | (refine step_load1 hO 1 rfl (by rfl) (by rfl) (by rfl) (by simp [go_sem]) rfl ?_))
          refine hK.out _ _ ⟨(HY.out _ (hO.suf sfx)).2.1, (HY.out _ (hO.suf sfx)).2.2.1, (HY.out _ (hO.suf sfx)).2.2.2.2.1, (HY.out _ (hO.suf sfx)).2.2.2.2.2.1, (HY.out _ (hO.suf sfx)).2.2.2.2.2.2⟩ (fun hS => ?_)
          clear hK K
          try simp only [Act.put, sb, s0, sz]
          refine wpAnyH_ready (rs := [16]) (by kernel_rfl) (by simp) ?_
          refine (AllReadyH.cons (o := ⟨some 45, .buildSlice 22 1 #[(0, .tmp 44)], _, _, _, none⟩) rfl (fun K hK => ?_) AllReadyH.nil)
          (refine step_build1 hO rfl (by rfl) (xs := enC ⟨yp, wd, wb⟩) (by rfl) Tryd.underlying22 zs_en Tryd.sizeOf63 (by decide) (by decide) rfl ?_; clear hO; intro b9 w7 hO)
          refine hK.out _ _ ⟨(HY.out _ (hO.suf sfx)).2.1, (HY.out _ (hO.suf sfx)).2.2.1, (HY.out _ (hO.suf sfx)).2.2.2.2.1, (HY.out _ (hO.suf sfx)).2.2.2.2.2.1, (HY.out _ (hO.suf sfx)).2.2.2.2.2.2⟩ (fun hS => ?_)
          clear hK K
          try simp only [Act.put, sb, s0, sz]
          refine wpAnyH_ready (rs := [17]) (by kernel_rfl) (by simp) ?_
          refine (AllReadyH.cons (o := ⟨some 46, .call { callee := .builtin .append, args := #[.tmp 29, .tmp 45], argTypes := #[22, 22] }, _, _, _, none⟩) rfl (fun K hK => ?_) AllReadyH.nil)
          (refine step_appendG hO 3 rfl rfl (by rfl) (by rfl) (by rfl) Tryd.underlying22 info_en (by decide) (m := 1) (news := enC ⟨yp, wd, wb⟩) (reads_pt hO 0 rfl (off := 0) (fun j u hu => by rw [Nat.zero_add, List.getElem?_toArray]; exact hu)) rfl (enC_one _) (by omega) (by omega) ?_; clear hO; intro a7 c7 w8 hO; simp only [List.set_cons_zero, List.set_cons_succ] at hO)
          refine hK.out _ _ ⟨(HY.out _ (hO.suf sfx)).2.1, (HY.out _ (hO.suf sfx)).2.2.1, (HY.out _ (hO.suf sfx)).2.2.2.2.1, (HY.out _ (hO.suf sfx)).2.2.2.2.2.1, (HY.out _ (hO.suf sfx)).2.2.2.2.2.2⟩ (fun hS => ?_)
          clear hK K
          try simp only [Act.put, sb, s0, sz]
          refine wpAnyH_ready (rs := [18]) (by kernel_rfl) (by simp) ?_
          refine (AllReadyH.cons (o := ⟨none, .store 22 (.tmp 2) (.tmp 46), _, _, _, none⟩) rfl (fun K hK => ?_) AllReadyH.nil)
          (refine step_setC hO 1 rfl (by rfl) (by rfl) (by rfl) (v := .slice a7 (out.length + 1) c7) (by rfl) (by first | (simp [go_sem]; done) | (simp [go_sem]; rfl)) rfl rfl (by simp) ?_; clear hO; intro w9 hO; simp only [List.set_cons_zero, List.set_cons_succ] at hO)
          refine hK.out _ _ ⟨(HY.out _ (hO.suf sfx)).2.1, (HY.out _ (hO.suf sfx)).2.2.1, (HY.out _ (hO.suf sfx)).2.2.2.2.1, (HY.out _ (hO.suf sfx)).2.2.2.2.2.1, (HY.out _ (hO.suf sfx)).2.2.2.2.2.2⟩ (fun hS => ?_)
          clear hK K
          try simp only [Act.put, sb, s0, sz]
          refine wpAnyH_done (by kernel_rfl) ?_ _
        rotate_right
        focus
          (refine step_build1 hO rfl (by rfl) (xs := enC ⟨yp, wd, wb⟩) (by rfl) Tryd.underlying22 zs_en Tryd.sizeOf63 (by decide) (by decide) rfl ?_; clear hO; intro b9 w7 hO)
          refine hK.out _ _ ⟨(HY.out _ (hO.suf sfx)).2.1, (HY.out _ (hO.suf sfx)).2.2.1, (HY.out _ (hO.suf sfx)).2.2.2.2.1, (HY.out _ (hO.suf sfx)).2.2.2.2.2.1, (HY.out _ (hO.suf sfx)).2.2.2.2.2.2⟩ (fun hS => ?_)
          clear hK K
          try simp only [Act.put, sb, s0, sz]
          refine wpAnyH_ready (rs := [0]) (by kernel_rfl) (by simp) ?_
          refine (AllReadyH.cons (o := ⟨some 29, .load 22 (.tmp 2), _, _, _, none⟩) rfl (fun K hK => ?_) AllReadyH.nil)
          (first | (refine step_load1 hO 0 rfl (by rfl) (by rfl) (by rfl) (by simp [go_sem]) rfl ?_) | (refine step_load1 hO 1 rfl (by rfl) (by rfl) (by rfl) (by simp [go_sem]) rfl ?_))
          refine hK.out _ _ ⟨(HY.out _ (hO.suf sfx)).2.1, (HY.out _ (hO.suf sfx)).2.2.1, (HY.out _ (hO.suf sfx)).2.2.2.2.1, (HY.out _ (hO.suf sfx)).2.2.2.2.2.1, (HY.out _ (hO.suf sfx)).2.2.2.2.2.2⟩ (fun hS => ?_)
          clear hK K
          try simp only [Act.put, sb, s0, sz]
          refine wpAnyH_ready (rs := [17]) (by kernel_rfl) (by simp) ?_
          refine (AllReadyH.cons (o := ⟨some 46, .call { callee := .builtin .append, args := #[.tmp 29, .tmp 45], argTypes := #[22, 22] }, _, _, _, none⟩) rfl (fun K hK => ?_) AllReadyH.nil)
          (refine step_appendG hO 3 rfl rfl (by rfl) (by rfl) (by rfl) Tryd.underlying22 info_en (by decide) (m := 1) (news := enC ⟨yp, wd, wb⟩) (reads_pt hO 0 rfl (off := 0) (fun j u hu => by rw [Nat.zero_add, List.getElem?_toArray]; exact hu)) rfl (enC_one _) (by omega) (by omega) ?_; clear hO; intro a7 c7 w8 hO; simp only [List.set_cons_zero, List.set_cons_succ] at hO)
          refine hK.out _ _ ⟨(HY.out _ (hO.suf sfx)).2.1, (HY.out _ (hO.suf sfx)).2.2.1, (HY.out _ (hO.suf sfx)).2.2.2.2.1, (HY.out _ (hO.suf sfx)).2.2.2.2.2.1, (HY.out _ (hO.suf sfx)).2.2.2.2.2.2⟩ (fun hS => ?_)
          clear hK K
          try simp only [Act.put, sb, s0, sz]
          refine wpAnyH_ready (rs := [18]) (by kernel_rfl) (by simp) ?_
          refine (AllReadyH.cons (o := ⟨none, .store 22 (.tmp 2) (.tmp 46), _, _, _, none⟩) rfl (fun K hK => ?_) AllReadyH.nil)
          (refine step_setC hO 1 rfl (by rfl) (by rfl) (by rfl) (v := .slice a7 (out.length + 1) c7) (by rfl) (by first | (simp [go_sem]; done) | (simp [go_sem]; rfl)) rfl rfl (by simp) ?_; clear hO; intro w9 hO; simp only [List.set_cons_zero, List.set_cons_succ] at hO)
          refine hK.out _ _ ⟨(HY.out _ (hO.suf sfx)).2.1, (HY.out _ (hO.suf sfx)).2.2.1, (HY.out _ (hO.suf sfx)).2.2.2.2.1, (HY.out _ (hO.suf sfx)).2.2.2.2.2.1, (HY.out _ (hO.suf sfx)).2.2.2.2.2.2⟩ (fun hS => ?_)
          clear hK K
          try simp only [Act.put, sb, s0, sz]
          refine wpAnyH_done (by kernel_rfl) ?_ _
        all_goals
          clear hS hE
          have hE := hO.tail
          clear hO
          go_wp2
          refine bodyPost_ret (results_none rfl _ _ _) rfl ?_
          refine ⟨_, rfl, a7, c7, ?_⟩
          have e1 : (out ++ [(⟨yp, wd, wb⟩ : En)]).length = out.length + 1 := by simp
          unfold boA
          rw [e1, ← rowEn_add]
          exact hE
end Go.Proofs.YtcpgelpajppgdaaDoor
namespace Go.Proofs.YtcpgelpajppgdaaDoor
open Go.RowKit Go.SL

def BoRel43 (N : Nat) (BB : List (Option En × Option Ch)) (J : List (Option En × Option Ch) → List HProp → Prop) (L0 : List HProp) (lo mo : Value) (wr : World) : Prop :=
  ∃ (n : Nat) (xs : List En) (ys : List Ch) (ao bo : Option Addr) (c d : Nat) (done : List (Option En × Option Ch)) (L : List HProp), n ≤ N ∧ xs.length + ys.length ≤ n ∧ lo = .slice ao xs.length c ∧ mo = .slice bo ys.length d ∧ xs.length ≤ c ∧ ys.length ≤ d ∧
    Knows L0 (reads (.slice ao xs.length c) xs.length (xs.flatMap enC)) ∧ Knows L0 (reads (.slice bo ys.length d) ys.length (ys.flatMap chC)) ∧ (∀ x ∈ xs, (En.path x).length ≤ 100000) ∧ (∀ x ∈ ys, (Ch.path x).length ≤ 100000) ∧
    done ++ bothB En.path Ch.path n xs ys = BB ∧ J done L ∧ L0 <:+ L ∧ Ent L wr
set_option maxRecDepth 100000 in
set_option maxHeartbeats 4000000 in
attribute [-go_sem] Instr.loadAt in
theorem both43_any {p1 p2 : Nat} {BB : List (Option En × Option Ch)} {J : List (Option En × Option Ch) → List HProp → Prop} {L0 : List HProp} {N : Nat}
    (hdo : ∀ done x y px py L w, (∃ r, done ++ (x, y) :: r = BB) → J done L → L0 <:+ L → Ent L w → ptrE L0 enC x px → ptrE L0 chC y py → Calls Tryd.prog 45 #[px, py, .pointer (some ⟨p1, 0, none⟩), .pointer (some ⟨p2, 0, none⟩)] w (Ret fun _ w' => ∃ L', J (done ++ [(x, y)]) L' ∧ L0 <:+ L' ∧ Ent L' w'))
    {xs : List En} {ys : List Ch} (hN : xs.length + ys.length ≤ N) (hBB : bothB En.path Ch.path N xs ys = BB) {ao bo : Option Addr} {c d : Nat} (hc : xs.length ≤ c) (hd : ys.length ≤ d) (hxl : ∀ x ∈ xs, (En.path x).length ≤ 100000) (hyl : ∀ x ∈ ys, (Ch.path x).length ≤ 100000)
    (hx : Knows L0 (reads (.slice ao xs.length c) xs.length (xs.flatMap enC))) (hy : Knows L0 (reads (.slice bo ys.length d) ys.length (ys.flatMap chC))) {L : List HProp} (hJ : J [] L) (hs : L0 <:+ L) {w : World} (hE : Ent L w) :
    Calls Tryd.prog 43 #[.slice ao xs.length c, .slice bo ys.length d, .func (.func 31) #[] #[], .func (.func 44) #[] #[], .func (.func 45) #[] #[.pointer (some ⟨p1, 0, none⟩), .pointer (some ⟨p2, 0, none⟩)]] w (Ret fun _ w' => ∃ L', J BB L' ∧ L0 <:+ L' ∧ Ent L' w') := by
  have Hdo := SL.hid hdo
  clear hdo
  go_enter Tryd.func43, Tryd.ntmps43
  go_wp2
  go_loopw [0, 1] (fun lo mo wr => BoRel43 N BB J L0 lo mo wr) (fun lo mo _ => lenV lo + lenV mo)
  case atStart => exact ⟨N, xs, ys, ao, bo, c, d, [], L, Nat.le_refl _, hN, rfl, rfl, hc, hd, hx, hy, hxl, hyl, hBB, hJ, hs, hE⟩
  case round =>
    clear hE hJ hs hx hy hxl hyl hc hd hBB hN
    clear ao bo c d xs ys L
    obtain ⟨n, xs, ys, ao, bo, c, d, done, L, hnN, hN, rfl, rfl, hc, hd, hx, hy, hxl, hyl, hBB, hJ, hs, hE⟩ := hrel
    cases xs with
    | nil =>
      cases ys with
      | nil =>
        have hz : done = BB := by
          rw [← hBB]
          cases n <;> simp [bothB]
        subst hz
        clear hBB hx hy
        go_wp2
        refine bodyPost_ret (results_none rfl _ _ _) rfl ?_
        exact ⟨_, rfl, L, hJ, hs, hE⟩
      | cons y ys =>
        obtain ⟨n, rfl⟩ : ∃ n', n = n' + 1 := ⟨n - 1, by simp at hN; omega⟩
        simp only [bothB] at hBB
        simp only [List.length_cons, List.length_nil] at hN hd
        obtain ⟨b_y, oy, rfl, hpy, hry, hsly, hldy⟩ := row_ch hd hy (hE.suf hs)
        simp only [List.length_cons, List.length_nil]
        have HX := SL.hid hx
        clear hx hy
        have g1 : (0 : Int) < (ys.length : Int) + 1 := by omega
        have g2 : ¬ ((ys.length : Int) + 1 = 0) := by omega
        go_wp2
        refine wp_region_held_drew (S := (fun _ => True)) (by kernel_rfl) trivial (fun hS => ?_)
        refine tV 0 ⟨some 48, .move (.tmp 1), _, _, _, none⟩ hS ?_
        refine tV 1 ⟨some 49, .indexAddr 30 (.tmp 48) (.const (.int .i64 0)), _, _, _, none⟩ hS ?_
        refine tV 2 ⟨some 50, .move (.tmp 1), _, _, _, none⟩ hS ?_
        refine tV 3 ⟨some 51, .slice 30 (.tmp 50) (some (.const (.int .i64 1))) none none, _, _, _, none⟩ hS ?_
        refine tV 4 ⟨some 12, .assign (.tmp 49), _, _, _, none⟩ hS ?_
        refine tV 5 ⟨some 1, .assign (.tmp 51), _, _, _, none⟩ hS ?_
        refine wpAnyH_done (by kernel_rfl) ?_ _
        all_goals
          clear hS
          replace hE := hE.drew
          go_wp2_with (first
            | go_skip
            | (go_at_call 45; refine (Hdo.out done none (some y) _ _ L _ ⟨_, hBB⟩ hJ hs hE rfl hpy).mono ?_; clear hE; rintro e w5 ⟨v, rfl, L', hJ', hs', hE⟩))
          go_roundw
          case rel => exact ⟨n, [], ys, _, _, _, _, done ++ [(none, (some y))], L', by omega, by (try simp only [List.length_cons, List.length_nil]); omega, rfl, rfl, by (try simp only [List.length_cons, List.length_nil]); omega, by (try simp only [List.length_cons, List.length_nil]); omega, HX.out, hry, hxl, fun z hz => hyl z (by simp [hz]), by rw [List.append_assoc]; exact hBB, hJ', hs', hE⟩
          case measure => simp [lenV] <;> omega
    | cons x xs =>
      cases ys with
      | nil =>
        obtain ⟨n, rfl⟩ : ∃ n', n = n' + 1 := ⟨n - 1, by simp at hN; omega⟩
        simp only [bothB] at hBB
        simp only [List.length_cons, List.length_nil] at hN hc
        obtain ⟨bx, ox, rfl, hpx, hrx, hslx, hldx⟩ := row_en hc hx (hE.suf hs)
        simp only [List.length_cons, List.length_nil]
        have HY := SL.hid hy
        clear hx hy
        have g1 : (0 : Int) < (xs.length : Int) + 1 := by omega
        have g2 : ¬ ((xs.length : Int) + 1 = 0) := by omega
        go_wp2
        refine wp_region_held_drew (S := (fun _ => True)) (by kernel_rfl) trivial (fun hS => ?_)
        refine tV 0 ⟨some 42, .move (.tmp 0), _, _, _, none⟩ hS ?_
        refine tV 1 ⟨some 43, .indexAddr 22 (.tmp 42) (.const (.int .i64 0)), _, _, _, none⟩ hS ?_
        refine tV 2 ⟨some 44, .move (.tmp 0), _, _, _, none⟩ hS ?_
        refine tV 3 ⟨some 45, .slice 22 (.tmp 44) (some (.const (.int .i64 1))) none none, _, _, _, none⟩ hS ?_
        refine tV 4 ⟨some 11, .assign (.tmp 43), _, _, _, none⟩ hS ?_
        refine tV 5 ⟨some 0, .assign (.tmp 45), _, _, _, none⟩ hS ?_
        refine wpAnyH_done (by kernel_rfl) ?_ _
        all_goals
          clear hS
          replace hE := hE.drew
          go_wp2_with (first
            | go_skip
            | (go_at_call 45; refine (Hdo.out done (some x) none _ _ L _ ⟨_, hBB⟩ hJ hs hE hpx rfl).mono ?_; clear hE; rintro e w5 ⟨v, rfl, L', hJ', hs', hE⟩))
          go_roundw
          case rel => exact ⟨n, xs, [], _, _, _, _, done ++ [((some x), none)], L', by omega, by (try simp only [List.length_cons, List.length_nil]); omega, rfl, rfl, by (try simp only [List.length_cons, List.length_nil]); omega, by (try simp only [List.length_cons, List.length_nil]); omega, hrx, HY.out, fun z hz => hxl z (by simp [hz]), hyl, by rw [List.append_assoc]; exact hBB, hJ', hs', hE⟩
          case measure => simp [lenV] <;> omega
      | cons y ys =>
        obtain ⟨n, rfl⟩ : ∃ n', n = n' + 1 := ⟨n - 1, by simp at hN; omega⟩
        simp only [List.length_cons] at hN hc hd
        obtain ⟨bx, ox, rfl, hpx, hrx, hslx, hldx⟩ := row_en hc hx (hE.suf hs)
        obtain ⟨b_y, oy, rfl, hpy, hry, hsly, hldy⟩ := row_ch hd hy (hE.suf hs)
        have HO := SL.hid (fun (w : World) (h : Ent L w) => Order_any (p := En.path x) (q := Ch.path y) (hxl x (by simp)) (hyl y (by simp)) h)
        simp only [List.length_cons]
        have HX := SL.hid hx
        have HY := SL.hid hy
        clear hx hy
        have g1 : (0 : Int) < (xs.length : Int) + 1 := by omega
        have g2 : ¬ ((xs.length : Int) + 1 = 0) := by omega
        have g3 : (0 : Int) < (ys.length : Int) + 1 := by omega
        have g4 : ¬ ((ys.length : Int) + 1 = 0) := by omega
        rcases ord_cases (En.path x) (Ch.path y) with ⟨ho, h1⟩ | ⟨ho, h1, h2⟩ | ⟨ho, h1, h2⟩
        · simp only [bothB, h1, if_true] at hBB
          rw [ho] at HO
          clear ho h1
          go_wp2
          have hO := hE.drew
          refine wp_region_held_drew (S := (fun w' => ((Instr.loadAt 63 (.pointer (some ⟨bx, ox, none⟩))).run Tryd.prog w' = .ok (.agg (enC x).toArray) w') ∧ ((Instr.loadAt 65 (.pointer (some ⟨b_y, oy, none⟩))).run Tryd.prog w' = .ok (.agg (chC y).toArray) w'))) (by kernel_rfl) ⟨(hldx _ (hO.suf hs)), (hldy _ (hO.suf hs))⟩ (fun hS => ?_)
          refine tV 0 ⟨some 21, .move (.tmp 2), _, _, _, none⟩ hS ?_
          refine tV 1 ⟨some 22, .move (.tmp 0), _, _, _, none⟩ hS ?_
          refine tV 2 ⟨some 23, .indexAddr 22 (.tmp 22) (.const (.int .i64 0)), _, _, _, none⟩ hS ?_
          refine tL 3 ⟨some 24, .load 63 (.tmp 23), _, _, _, none⟩ hS ?_
          refine tV 5 ⟨some 26, .move (.tmp 3), _, _, _, none⟩ hS ?_
          refine tV 6 ⟨some 27, .move (.tmp 1), _, _, _, none⟩ hS ?_
          refine tV 7 ⟨some 28, .indexAddr 30 (.tmp 27) (.const (.int .i64 0)), _, _, _, none⟩ hS ?_
          refine tL 8 ⟨some 29, .load 65 (.tmp 28), _, _, _, none⟩ hS ?_
          refine wpAnyH_ready (rs := [4]) (by kernel_rfl) (by simp) ?_
          refine (AllReadyH.cons (o := ⟨some 25, .call { callee := .value (.tmp 21), args := #[.tmp 24], argTypes := #[63] }, _, _, _, none⟩) rfl (fun K hK => ?_) AllReadyH.nil)
          (go_simp; refine (pathOf_any x hO).mono ?_; clear hO; rintro e w5 ⟨v, rfl, rfl, hO⟩)
          refine hK.out _ _ ⟨(hldx _ (hO.suf hs)), (hldy _ (hO.suf hs))⟩ (fun hS => ?_)
          clear hK K
          try simp only [Act.put, sb, s0, sz]
          refine wpAnyH_ready (rs := [9]) (by kernel_rfl) (by simp) ?_
          refine (AllReadyH.cons (o := ⟨some 30, .call { callee := .value (.tmp 26), args := #[.tmp 29], argTypes := #[65] }, _, _, _, none⟩) rfl (fun K hK => ?_) AllReadyH.nil)
          (go_simp; refine (changed_any y hO).mono ?_; clear hO; rintro e w5 ⟨v, rfl, rfl, hO⟩)
          refine hK.out _ _ ⟨(hldx _ (hO.suf hs)), (hldy _ (hO.suf hs))⟩ (fun hS => ?_)
          clear hK K
          try simp only [Act.put, sb, s0, sz]
          refine wpAnyH_ready (rs := [10]) (by kernel_rfl) (by simp) ?_
          refine (AllReadyH.cons (o := ⟨some 31, .call { callee := .value (.func 17), args := #[.tmp 25, .tmp 30], argTypes := #[9, 9] }, _, _, _, none⟩) rfl (fun K hK => ?_) AllReadyH.nil)
          (go_simp; refine (HO.out _ hO).mono ?_; clear hO; rintro e w5 ⟨v, rfl, rfl, hO⟩)
          refine hK.out _ _ ⟨(hldx _ (hO.suf hs)), (hldy _ (hO.suf hs))⟩ (fun hS => ?_)
          clear hK K
          try simp only [Act.put, sb, s0, sz]
          refine tV 11 ⟨some 10, .assign (.tmp 31), _, _, _, none⟩ hS ?_
          refine wpAnyH_done (by kernel_rfl) ?_ _
          all_goals
            clear hS
            have hE := hO
            go_wp2
            refine wp_region_held_drew (S := (fun _ => True)) (by kernel_rfl) trivial (fun hS => ?_)
            refine tV 0 ⟨some 42, .move (.tmp 0), _, _, _, none⟩ hS ?_
            refine tV 1 ⟨some 43, .indexAddr 22 (.tmp 42) (.const (.int .i64 0)), _, _, _, none⟩ hS ?_
            refine tV 2 ⟨some 44, .move (.tmp 0), _, _, _, none⟩ hS ?_
            refine tV 3 ⟨some 45, .slice 22 (.tmp 44) (some (.const (.int .i64 1))) none none, _, _, _, none⟩ hS ?_
            refine tV 4 ⟨some 11, .assign (.tmp 43), _, _, _, none⟩ hS ?_
            refine tV 5 ⟨some 0, .assign (.tmp 45), _, _, _, none⟩ hS ?_
            refine wpAnyH_done (by kernel_rfl) ?_ _
            all_goals
              clear hS
              replace hE := hE.drew
              go_wp2_with (first
                | go_skip
                | (go_at_call 45; refine (Hdo.out done (some x) none _ _ L _ ⟨_, hBB⟩ hJ hs hE hpx rfl).mono ?_; clear hE; rintro e w5 ⟨v, rfl, L', hJ', hs', hE⟩))
              go_roundw
              case rel => exact ⟨n, xs, (y :: ys), _, _, _, _, done ++ [((some x), none)], L', by omega, by (try simp only [List.length_cons, List.length_nil]); omega, rfl, rfl, by (try simp only [List.length_cons, List.length_nil]); omega, by (try simp only [List.length_cons, List.length_nil]); omega, hrx, HY.out, fun z hz => hxl z (by simp [hz]), hyl, by rw [List.append_assoc]; exact hBB, hJ', hs', hE⟩
              case measure => simp [lenV] <;> omega
        · simp only [bothB, h1, h2, if_true, if_false, Bool.false_eq_true] at hBB
          rw [ho] at HO
          clear ho h1 h2
          go_wp2
          have hO := hE.drew
          refine wp_region_held_drew (S := (fun w' => ((Instr.loadAt 63 (.pointer (some ⟨bx, ox, none⟩))).run Tryd.prog w' = .ok (.agg (enC x).toArray) w') ∧ ((Instr.loadAt 65 (.pointer (some ⟨b_y, oy, none⟩))).run Tryd.prog w' = .ok (.agg (chC y).toArray) w'))) (by kernel_rfl) ⟨(hldx _ (hO.suf hs)), (hldy _ (hO.suf hs))⟩ (fun hS => ?_)
          refine tV 0 ⟨some 21, .move (.tmp 2), _, _, _, none⟩ hS ?_
          refine tV 1 ⟨some 22, .move (.tmp 0), _, _, _, none⟩ hS ?_
          refine tV 2 ⟨some 23, .indexAddr 22 (.tmp 22) (.const (.int .i64 0)), _, _, _, none⟩ hS ?_
          refine tL 3 ⟨some 24, .load 63 (.tmp 23), _, _, _, none⟩ hS ?_
          refine tV 5 ⟨some 26, .move (.tmp 3), _, _, _, none⟩ hS ?_
          refine tV 6 ⟨some 27, .move (.tmp 1), _, _, _, none⟩ hS ?_
          refine tV 7 ⟨some 28, .indexAddr 30 (.tmp 27) (.const (.int .i64 0)), _, _, _, none⟩ hS ?_
          refine tL 8 ⟨some 29, .load 65 (.tmp 28), _, _, _, none⟩ hS ?_
          refine wpAnyH_ready (rs := [4]) (by kernel_rfl) (by simp) ?_
          refine (AllReadyH.cons (o := ⟨some 25, .call { callee := .value (.tmp 21), args := #[.tmp 24], argTypes := #[63] }, _, _, _, none⟩) rfl (fun K hK => ?_) AllReadyH.nil)
          (go_simp; refine (pathOf_any x hO).mono ?_; clear hO; rintro e w5 ⟨v, rfl, rfl, hO⟩)
          refine hK.out _ _ ⟨(hldx _ (hO.suf hs)), (hldy _ (hO.suf hs))⟩ (fun hS => ?_)
          clear hK K
          try simp only [Act.put, sb, s0, sz]
          refine wpAnyH_ready (rs := [9]) (by kernel_rfl) (by simp) ?_
          refine (AllReadyH.cons (o := ⟨some 30, .call { callee := .value (.tmp 26), args := #[.tmp 29], argTypes := #[65] }, _, _, _, none⟩) rfl (fun K hK => ?_) AllReadyH.nil)
          (go_simp; refine (changed_any y hO).mono ?_; clear hO; rintro e w5 ⟨v, rfl, rfl, hO⟩)
          refine hK.out _ _ ⟨(hldx _ (hO.suf hs)), (hldy _ (hO.suf hs))⟩ (fun hS => ?_)
          clear hK K
          try simp only [Act.put, sb, s0, sz]
          refine wpAnyH_ready (rs := [10]) (by kernel_rfl) (by simp) ?_
          refine (AllReadyH.cons (o := ⟨some 31, .call { callee := .value (.func 17), args := #[.tmp 25, .tmp 30], argTypes := #[9, 9] }, _, _, _, none⟩) rfl (fun K hK => ?_) AllReadyH.nil)
          (go_simp; refine (HO.out _ hO).mono ?_; clear hO; rintro e w5 ⟨v, rfl, rfl, hO⟩)
          refine hK.out _ _ ⟨(hldx _ (hO.suf hs)), (hldy _ (hO.suf hs))⟩ (fun hS => ?_)
          clear hK K
          try simp only [Act.put, sb, s0, sz]
          refine tV 11 ⟨some 10, .assign (.tmp 31), _, _, _, none⟩ hS ?_
          refine wpAnyH_done (by kernel_rfl) ?_ _
          all_goals
            clear hS
            have hE := hO
            go_wp2
            refine wp_region_held_drew (S := (fun _ => True)) (by kernel_rfl) trivial (fun hS => ?_)
            refine tV 0 ⟨some 48, .move (.tmp 1), _, _, _, none⟩ hS ?_
            refine tV 1 ⟨some 49, .indexAddr 30 (.tmp 48) (.const (.int .i64 0)), _, _, _, none⟩ hS ?_
            refine tV 2 ⟨some 50, .move (.tmp 1), _, _, _, none⟩ hS ?_
            refine tV 3 ⟨some 51, .slice 30 (.tmp 50) (some (.const (.int .i64 1))) none none, _, _, _, none⟩ hS ?_
            refine tV 4 ⟨some 12, .assign (.tmp 49), _, _, _, none⟩ hS ?_
            refine tV 5 ⟨some 1, .assign (.tmp 51), _, _, _, none⟩ hS ?_
            refine wpAnyH_done (by kernel_rfl) ?_ _
            all_goals
              clear hS
              replace hE := hE.drew
              go_wp2_with (first
                | go_skip
                | (go_at_call 45; refine (Hdo.out done none (some y) _ _ L _ ⟨_, hBB⟩ hJ hs hE rfl hpy).mono ?_; clear hE; rintro e w5 ⟨v, rfl, L', hJ', hs', hE⟩))
              go_roundw
              case rel => exact ⟨n, (x :: xs), ys, _, _, _, _, done ++ [(none, (some y))], L', by omega, by (try simp only [List.length_cons, List.length_nil]); omega, rfl, rfl, by (try simp only [List.length_cons, List.length_nil]); omega, by (try simp only [List.length_cons, List.length_nil]); omega, HX.out, hry, hxl, fun z hz => hyl z (by simp [hz]), by rw [List.append_assoc]; exact hBB, hJ', hs', hE⟩
              case measure => simp [lenV] <;> omega
        · simp only [bothB, h1, h2, if_false, Bool.false_eq_true] at hBB
          rw [ho] at HO
          clear ho h1 h2
          go_wp2
          have hO := hE.drew
          refine wp_region_held_drew (S := (fun w' => ((Instr.loadAt 63 (.pointer (some ⟨bx, ox, none⟩))).run Tryd.prog w' = .ok (.agg (enC x).toArray) w') ∧ ((Instr.loadAt 65 (.pointer (some ⟨b_y, oy, none⟩))).run Tryd.prog w' = .ok (.agg (chC y).toArray) w'))) (by kernel_rfl) ⟨(hldx _ (hO.suf hs)), (hldy _ (hO.suf hs))⟩ (fun hS => ?_)
          refine tV 0 ⟨some 21, .move (.tmp 2), _, _, _, none⟩ hS ?_
          refine tV 1 ⟨some 22, .move (.tmp 0), _, _, _, none⟩ hS ?_
          refine tV 2 ⟨some 23, .indexAddr 22 (.tmp 22) (.const (.int .i64 0)), _, _, _, none⟩ hS ?_
          refine tL 3 ⟨some 24, .load 63 (.tmp 23), _, _, _, none⟩ hS ?_
          refine tV 5 ⟨some 26, .move (.tmp 3), _, _, _, none⟩ hS ?_
          refine tV 6 ⟨some 27, .move (.tmp 1), _, _, _, none⟩ hS ?_
          refine tV 7 ⟨some 28, .indexAddr 30 (.tmp 27) (.const (.int .i64 0)), _, _, _, none⟩ hS ?_
          refine tL 8 ⟨some 29, .load 65 (.tmp 28), _, _, _, none⟩ hS ?_
          refine wpAnyH_ready (rs := [4]) (by kernel_rfl) (by simp) ?_
          refine (AllReadyH.cons (o := ⟨some 25, .call { callee := .value (.tmp 21), args := #[.tmp 24], argTypes := #[63] }, _, _, _, none⟩) rfl (fun K hK => ?_) AllReadyH.nil)
          (go_simp; refine (pathOf_any x hO).mono ?_; clear hO; rintro e w5 ⟨v, rfl, rfl, hO⟩)
          refine hK.out _ _ ⟨(hldx _ (hO.suf hs)), (hldy _ (hO.suf hs))⟩ (fun hS => ?_)
          clear hK K
          try simp only [Act.put, sb, s0, sz]
          refine wpAnyH_ready (rs := [9]) (by kernel_rfl) (by simp) ?_
          refine (AllReadyH.cons (o := ⟨some 30, .call { callee := .value (.tmp 26), args := #[.tmp 29], argTypes := #[65] }, _, _, _, none⟩) rfl (fun K hK => ?_) AllReadyH.nil)
          (go_simp; refine (changed_any y hO).mono ?_; clear hO; rintro e w5 ⟨v, rfl, rfl, hO⟩)
          refine hK.out _ _ ⟨(hldx _ (hO.suf hs)), (hldy _ (hO.suf hs))⟩ (fun hS => ?_)
          clear hK K
          try simp only [Act.put, sb, s0, sz]
          refine wpAnyH_ready (rs := [10]) (by kernel_rfl) (by simp) ?_
          refine (AllReadyH.cons (o := ⟨some 31, .call { callee := .value (.func 17), args := #[.tmp 25, .tmp 30], argTypes := #[9, 9] }, _, _, _, none⟩) rfl (fun K hK => ?_) AllReadyH.nil)
          (go_simp; refine (HO.out _ hO).mono ?_; clear hO; rintro e w5 ⟨v, rfl, rfl, hO⟩)
          refine hK.out _ _ ⟨(hldx _ (hO.suf hs)), (hldy _ (hO.suf hs))⟩ (fun hS => ?_)
          clear hK K
          try simp only [Act.put, sb, s0, sz]
          refine tV 11 ⟨some 10, .assign (.tmp 31), _, _, _, none⟩ hS ?_
          refine wpAnyH_done (by kernel_rfl) ?_ _
          all_goals
            clear hS
            have hE := hO
            go_wp2
            refine wp_region_held_drew (S := (fun _ => True)) (by kernel_rfl) trivial (fun hS => ?_)
            refine tV 0 ⟨some 42, .move (.tmp 0), _, _, _, none⟩ hS ?_
            refine tV 1 ⟨some 43, .indexAddr 22 (.tmp 42) (.const (.int .i64 0)), _, _, _, none⟩ hS ?_
            refine tV 2 ⟨some 44, .move (.tmp 0), _, _, _, none⟩ hS ?_
            refine tV 3 ⟨some 45, .slice 22 (.tmp 44) (some (.const (.int .i64 1))) none none, _, _, _, none⟩ hS ?_
            refine tV 4 ⟨some 11, .assign (.tmp 43), _, _, _, none⟩ hS ?_
            refine tV 5 ⟨some 0, .assign (.tmp 45), _, _, _, none⟩ hS ?_
            refine wpAnyH_done (by kernel_rfl) ?_ _
            all_goals
              clear hS
              replace hE := hE.drew
              go_wp2
              refine wp_region_held_drew (S := (fun _ => True)) (by kernel_rfl) trivial (fun hS => ?_)
              refine tV 0 ⟨some 48, .move (.tmp 1), _, _, _, none⟩ hS ?_
              refine tV 1 ⟨some 49, .indexAddr 30 (.tmp 48) (.const (.int .i64 0)), _, _, _, none⟩ hS ?_
              refine tV 2 ⟨some 50, .move (.tmp 1), _, _, _, none⟩ hS ?_
              refine tV 3 ⟨some 51, .slice 30 (.tmp 50) (some (.const (.int .i64 1))) none none, _, _, _, none⟩ hS ?_
              refine tV 4 ⟨some 12, .assign (.tmp 49), _, _, _, none⟩ hS ?_
              refine tV 5 ⟨some 1, .assign (.tmp 51), _, _, _, none⟩ hS ?_
              refine wpAnyH_done (by kernel_rfl) ?_ _
              all_goals
                clear hS
                replace hE := hE.drew
                go_wp2_with (first
                  | go_skip
                  | (go_at_call 45; refine (Hdo.out done (some x) (some y) _ _ L _ ⟨_, hBB⟩ hJ hs hE hpx hpy).mono ?_; clear hE; rintro e w5 ⟨v, rfl, L', hJ', hs', hE⟩))
                go_roundw
                case rel => exact ⟨n, xs, ys, _, _, _, _, done ++ [((some x), (some y))], L', by omega, by (try simp only [List.length_cons, List.length_nil]); omega, rfl, rfl, by (try simp only [List.length_cons, List.length_nil]); omega, by (try simp only [List.length_cons, List.length_nil]); omega, hrx, hry, fun z hz => hxl z (by simp [hz]), fun z hz => hyl z (by simp [hz]), by rw [List.append_assoc]; exact hBB, hJ', hs', hE⟩
                case measure => simp [lenV] <;> omega
end Go.Proofs.YtcpgelpajppgdaaDoor
namespace Go.SL
theorem Ent.swap {a b c : List HProp} {w : World} (h : Ent (a ++ (b ++ c)) w) : Ent (b ++ (a ++ c)) w := h.perm (by rw [← List.append_assoc, ← List.append_assoc]; exact List.perm_append_comm.append_right c)
end Go.SL
namespace Go.SL
theorem results_c3 {P : Program} {l : List HProp} {w : World} {fn : Func} {k j i : Tmp} {t : TypeId} (h : fn.results = #[.cell k t, .tmp j, .tmp i]) {tmps : Array Value} (hE : Ent l w) (q : Nat) {b : Nat} {xs : List Value} {T : TypeId} {fz : Nat × Nat} (hi : l[q]? = some (pt b (.cells xs.toArray T fz)))
    (hp : tmps.getD k undef = .pointer (some ⟨b, 0, none⟩)) (hA : ∀ w, (isAgg t).run P w = .ok true w) {n : Nat} (hn : ∀ w, (Go.sizeOf t).run P w = .ok n w) (hl : xs.length = n) {v u : Value} (hv : tmps.getD j undef = v) (hu : tmps.getD i undef = u) : (results fn tmps).run P w = .ok (.tuple #[.agg xs.toArray, v, u]) w := by
  have hp' : tmps[k]?.getD undef = .pointer (some ⟨b, 0, none⟩) := by simpa using hp
  have hv' : tmps[j]?.getD undef = v := by simpa using hv
  have hu' : tmps[i]?.getD undef = u := by simpa using hu
  simp only [results, h]
  simp [hp', hv', hu', asAddr, run_resultA hE q hi hA hn hl]
end Go.SL
namespace Go.Proofs.YtcpgelpajppgdaaDoor
open Go.RowKit Go.SL

def anyN (b : Nat) : HProp := ex fun z : Value × Value × Value => [pt b (.cells #[z.1, z.2.1, z.2.2] 25)]
theorem anyN_of {b : Nat} {x y z : Value} {l : List HProp} {w : World} (h : Ent (pt b (.cells #[x, y, z] 25) :: l) w) : Ent (anyN b :: l) w := Ent.pack (f := fun z : Value × Value × Value => [pt b (.cells #[z.1, z.2.1, z.2.2] 25)]) (x, y, z) h
def treeP (es : List En) : Option Tr := if great es = true then none else if (buildT es).1 = 0 then some (buildT es).2 else none
def TnPost (l : List HProp) (v : Value) (w' : World) : Prop := ∃ (m : List HProp) (a : Option Addr) (c : Nat) (a' : Option Addr) (c' : Nat), v = .tuple #[.agg #[.bool false, .string ⟨#[]⟩, .slice a 0 c], .slice a' 0 c', .bool false] ∧ Ent (m ++ l) w'
def TgPost (t : Tr) (l : List HProp) (v : Value) (w' : World) : Prop := ∃ (m : List HProp) (a : Option Addr) (c : Nat) (a' : Option Addr) (c' : Nat), v = .tuple #[.agg #[.bool t.dir, .string ⟨t.data.toArray⟩, .slice a t.kids.length c], .slice a' (entT 6 [] t).length c', .bool true] ∧ Ent (m ++ l) w' ∧ KidsAt (m ++ l) (.slice a t.kids.length c) t.kids ∧ Knows (m ++ l) (reads (.slice a' (entT 6 [] t).length c') (entT 6 [] t).length ((entT 6 [] t).flatMap enC))
theorem zero_wf : Tr.Wf 6 .zero := ⟨fun _ => rfl, fun _ => rfl, fun i h => absurd h (by simp [Tr.zero, Tr.names, Tr.kids]), Nat.zero_le _, Nat.zero_le _, fun k h => (by simp [Tr.zero, Tr.kids] at h)⟩
theorem zero_ent : entT 6 [] .zero = [] := rfl
set_option maxRecDepth 100000 in
set_option maxHeartbeats 4000000 in
attribute [-go_sem] Instr.loadAt in
theorem Tree_none {es : List En} (h : treeP es = none) {ao : Option Addr} {c : Nat} {l : List HProp} {w : World} (hk : Knows l (reads (.slice ao es.length c) es.length (es.flatMap enC))) (hE : Ent l w) :
    Calls Tryd.prog 8 #[.slice ao es.length c] w (Ret (TnPost l)) := by
  have HGr := SL.hid (fun (L : List HProp) (w : World) (hs : l <:+ L) (h : Ent L w) => show Calls Tryd.prog 28 #[.slice ao es.length c] w (Ret fun v w' => v = .bool (great es) ∧ Ent L w') from Great_any (hk.suf hs) h)
  have Tok := SL.hid True.intro
  cases hgr : great es with
  | true =>
    rw [hgr] at HGr
    clear hgr h
    go_enter Tryd.func8, Tryd.ntmps8
    go_wp2_with (first
      | go_skip
      | ((with_reducible (show Go.wpList _ _ _ (Go.Oper.mk _ (.alloc _) _ _ _ _ :: _) _ _)); refine wpl_alloc hE rfl rfl (by simp [go_sem]; rfl) ?_; clear hE; intro b2 w hE; simp only [Act.eval, Act.put, List.setIfInBounds_toArray, List.set_cons_zero, List.set_cons_succ, getD_lit, List.getD_cons_succ, List.getD_cons_zero, Value.cells] at hE)
      | (go_at_call 28; refine (HGr.out _ _ (List.suffix_cons _ _) hE).mono ?_; clear hE; rintro e w2 ⟨v, rfl, rfl, hE⟩)
      | ((with_reducible (show Go.wpList _ _ _ (Go.Oper.mk _ (.store 25 _ _) _ _ _ _ :: _) _ _)); (first | (refine wpl_storeW hE 0 rfl rfl rfl (xs := [.bool false, .string ⟨#[]⟩, .slice none 0 0]) rfl rfl Tryd.sizeOf25 rfl (by simp [Value.oneCell']) rfl ?_) | (refine wpl_storeW hE 1 rfl rfl rfl (xs := [.bool false, .string ⟨#[]⟩, .slice none 0 0]) rfl rfl Tryd.sizeOf25 rfl (by simp [Value.oneCell']) rfl ?_) | (refine wpl_storeW hE 2 rfl rfl rfl (xs := [.bool false, .string ⟨#[]⟩, .slice none 0 0]) rfl rfl Tryd.sizeOf25 rfl (by simp [Value.oneCell']) rfl ?_) | (refine wpl_storeW hE 3 rfl rfl rfl (xs := [.bool false, .string ⟨#[]⟩, .slice none 0 0]) rfl rfl Tryd.sizeOf25 rfl (by simp [Value.oneCell']) rfl ?_) | (refine wpl_storeW hE 4 rfl rfl rfl (xs := [.bool false, .string ⟨#[]⟩, .slice none 0 0]) rfl rfl Tryd.sizeOf25 rfl (by simp [Value.oneCell']) rfl ?_) | (refine wpl_storeW hE 5 rfl rfl rfl (xs := [.bool false, .string ⟨#[]⟩, .slice none 0 0]) rfl rfl Tryd.sizeOf25 rfl (by simp [Value.oneCell']) rfl ?_) | (refine wpl_storeW hE 6 rfl rfl rfl (xs := [.bool false, .string ⟨#[]⟩, .slice none 0 0]) rfl rfl Tryd.sizeOf25 rfl (by simp [Value.oneCell']) rfl ?_) | (refine wpl_storeW hE 7 rfl rfl rfl (xs := [.bool false, .string ⟨#[]⟩, .slice none 0 0]) rfl rfl Tryd.sizeOf25 rfl (by simp [Value.oneCell']) rfl ?_)); clear hE; intro w hE; simp only [List.set_cons_zero, List.set_cons_succ] at hE))
    refine bodyPost_ret (results_c3 rfl hE 0 rfl rfl Tryd.isAgg25 Tryd.sizeOf25 rfl rfl rfl) rfl ?_
    exact ⟨_, rfl, [], none, 0, none, 0, rfl, hE.tail⟩
  | false =>
    obtain ⟨hle, hbd⟩ := great_not.1 hgr
    have hne : (buildT es).1 ≠ 0 := by
      intro h0
      rw [treeP, if_neg (by rw [hgr]; simp), if_pos h0] at h
      cases h
    have hz := buildT_zero hne
    have hne2 : ((buildT es).1 == 0) = false := by simpa using hne
    rw [hgr] at HGr
    have HBu := SL.hid (fun (b2 : Nat) (w : World) (h : Ent (anyN b2 :: l) w) => show Calls Tryd.prog 29 #[.slice ao es.length c] w (Ret fun v w' => ∃ m a c1, v = .tuple #[.agg #[.bool false, .string ⟨#[]⟩, .slice a 0 c1], .int .i64 (buildT es).1] ∧ Ent (anyN b2 :: (m ++ l)) w' ∧ KidsAt (anyN b2 :: (m ++ l)) (.slice a 0 c1) []) from by
      refine (Build_any (by omega) (fun x hx => ⟨by have := (hbd x hx).1; omega, by have := (hbd x hx).2; omega⟩) (hk.suf (List.suffix_cons _ _)) h).mono ?_
      rintro e w' ⟨v, rfl, m, kv, h, hE, hK⟩
      rw [hz] at h hK
      obtain ⟨a, c', rfl⟩ := hK.slice
      exact ⟨_, rfl, m, a, c', h, Ent.swap (a := m) (b := [anyN b2]) hE, hK.mono (fun p hp W hW => hp W (Ent.swap (a := [anyN b2]) (b := m) hW))⟩)
    have HEn := SL.hid (fun (A B : HProp) (X : List HProp) (w : World) (a : Option Addr) (c1 : Nat) (hK : KidsAt (B :: X) (.slice a 0 c1) []) (h : Ent (A :: B :: X) w) => show Calls Tryd.prog 23 #[.agg #[.bool false, .string ⟨#[]⟩, .slice a 0 c1]] w (Ret fun v w' => ∃ a' c' m, v = .slice a' 0 c' ∧ Ent (A :: B :: rowEn a' c' [] :: (m ++ X)) w') from by
      refine (Entries_any (t := .zero) (kv := .slice a 0 c1) zero_wf (by decide) (hK.suf (List.suffix_cons _ _)) (by rw [zero_ent]; decide) h).mono ?_
      rintro e w' ⟨v, rfl, a', c', m, h, hE⟩
      exact ⟨_, rfl, a', c', m, h, Ent.swap (a := rowEn a' c' [] :: m) (b := [A, B]) hE⟩)
    clear hgr h hne hz hbd hle hk
    generalize (buildT es).1 = er at *
    go_enter Tryd.func8, Tryd.ntmps8
    go_wp2_with (first
      | go_skip
      | ((with_reducible (show Go.wpList _ _ _ (Go.Oper.mk _ (.alloc _) _ _ _ _ :: _) _ _)); clear Tok; ((with_reducible (show Go.wpList _ _ _ (Go.Oper.mk _ (.alloc _) _ _ _ _ :: _) _ _)); refine wpl_alloc hE rfl rfl (by simp [go_sem]; rfl) ?_; clear hE; intro b2 w hE; simp only [Act.eval, Act.put, List.setIfInBounds_toArray, List.set_cons_zero, List.set_cons_succ, getD_lit, List.getD_cons_succ, List.getD_cons_zero, Value.cells] at hE); replace hE := anyN_of hE)
      | ((with_reducible (show Go.wpList _ _ _ (Go.Oper.mk _ (.alloc _) _ _ _ _ :: _) _ _)); refine wpl_alloc hE rfl rfl (by simp [go_sem]; rfl) ?_; clear hE; intro b5 w hE; simp only [Act.eval, Act.put, List.setIfInBounds_toArray, List.set_cons_zero, List.set_cons_succ, getD_lit, List.getD_cons_succ, List.getD_cons_zero, Value.cells] at hE)
      | (go_at_call 28; refine (HGr.out _ _ (List.suffix_cons _ _) hE).mono ?_; clear hE; rintro e w2 ⟨v, rfl, rfl, hE⟩)
      | (go_at_call 29; refine (HBu.out _ _ hE).mono ?_; clear hE; rintro e w3 ⟨v, rfl, m, a, c1, rfl, hE, hKA⟩)
      | ((with_reducible (show Go.wpList _ _ _ (Go.Oper.mk _ (.store 25 _ _) _ _ _ _ :: _) _ _)); (first | (refine wpl_storeW hE 0 rfl rfl rfl (xs := [.bool false, .string ⟨#[]⟩, .slice a 0 c1]) rfl rfl Tryd.sizeOf25 rfl (by simp [Value.oneCell']) rfl ?_) | (refine wpl_storeW hE 1 rfl rfl rfl (xs := [.bool false, .string ⟨#[]⟩, .slice a 0 c1]) rfl rfl Tryd.sizeOf25 rfl (by simp [Value.oneCell']) rfl ?_) | (refine wpl_storeW hE 2 rfl rfl rfl (xs := [.bool false, .string ⟨#[]⟩, .slice a 0 c1]) rfl rfl Tryd.sizeOf25 rfl (by simp [Value.oneCell']) rfl ?_) | (refine wpl_storeW hE 3 rfl rfl rfl (xs := [.bool false, .string ⟨#[]⟩, .slice a 0 c1]) rfl rfl Tryd.sizeOf25 rfl (by simp [Value.oneCell']) rfl ?_) | (refine wpl_storeW hE 4 rfl rfl rfl (xs := [.bool false, .string ⟨#[]⟩, .slice a 0 c1]) rfl rfl Tryd.sizeOf25 rfl (by simp [Value.oneCell']) rfl ?_) | (refine wpl_storeW hE 5 rfl rfl rfl (xs := [.bool false, .string ⟨#[]⟩, .slice a 0 c1]) rfl rfl Tryd.sizeOf25 rfl (by simp [Value.oneCell']) rfl ?_) | (refine wpl_storeW hE 6 rfl rfl rfl (xs := [.bool false, .string ⟨#[]⟩, .slice a 0 c1]) rfl rfl Tryd.sizeOf25 rfl (by simp [Value.oneCell']) rfl ?_) | (refine wpl_storeW hE 7 rfl rfl rfl (xs := [.bool false, .string ⟨#[]⟩, .slice a 0 c1]) rfl rfl Tryd.sizeOf25 rfl (by simp [Value.oneCell']) rfl ?_)); clear hE; intro w hE; simp only [List.set_cons_zero, List.set_cons_succ] at hE))
    replace HEn := SL.hid (fun (w : World) (h : Ent (pt b5 (.cells #[.bool false, .string ⟨#[]⟩, .slice a 0 c1] 25) :: anyN b2 :: (m ++ l)) w) => HEn.out _ _ _ w a c1 hKA h)
    refine wp_region_held_drew (S := (fun w' => ((Instr.loadAt 25 (.pointer (some ⟨b5, 0, none⟩))).run Tryd.prog w' = .ok (.agg [.bool false, .string ⟨#[]⟩, .slice a 0 c1].toArray) w'))) (by kernel_rfl) (atWm hE.drew (by repeat (first | exact List.Mem.head _ | refine List.Mem.tail _ ?_)) Tryd.isAgg25 Tryd.sizeOf25 rfl) (fun hS => ?_)
    refine tL 0 ⟨some 15, .load 25 (.tmp 5), _, _, _, none⟩ hS ?_
    refine tL 1 ⟨some 16, .load 25 (.tmp 5), _, _, _, none⟩ hS ?_
    refine tV 3 ⟨some 18, .move (.tmp 6), _, _, _, none⟩ hS ?_
    refine tV 4 ⟨some 19, .binOp .eql 44 (.tmp 18) (.const (.int .i64 0)) 44, _, _, _, none⟩ hS ?_
    refine wpAnyH_ready (rs := [2]) (by kernel_rfl) (by simp) ?_
    refine (AllReadyH.cons (o := ⟨some 17, .call { callee := .value (.func 23), args := #[.tmp 16], argTypes := #[25] }, _, _, _, none⟩) rfl (fun K hK => ?_) AllReadyH.nil)
    (go_simp; refine (HEn.out _ hE.drew).mono ?_; rintro e w4 ⟨v, rfl, a4, c4, m4, rfl, hR⟩)
    refine hK.out _ _ (atWm hR (by repeat (first | exact List.Mem.head _ | refine List.Mem.tail _ ?_)) Tryd.isAgg25 Tryd.sizeOf25 rfl) (fun hS => ?_)
    clear hK K
    try simp only [Act.put, sb, s0, sz]
    refine wpAnyH_ready (rs := [5]) (by kernel_rfl) (by simp) ?_
    refine (AllReadyH.cons (o := ⟨none, .store 25 (.tmp 2) (.tmp 15), _, _, _, none⟩) rfl (fun K hK => ?_) AllReadyH.nil)
    ((first | obtain ⟨⟨z0, z1, z2⟩, hU⟩ := (hR.front 1 rfl).unpack | obtain ⟨⟨z0, z1, z2⟩, hU⟩ := (hE.drew.front 1 rfl).unpack); refine step_storeW hU 0 rfl (by rfl) (by rfl) (by rfl) (xs := [.bool false, .string ⟨#[]⟩, .slice a 0 c1]) (by rfl) Tryd.sizeOf25 rfl (by simp [Value.oneCell']) rfl ?_; intro w7 hEs; simp only [List.set_cons_zero, List.set_cons_succ, List.cons_append, List.nil_append] at hEs)
    refine hK.out _ _ (atWm hEs (by repeat (first | exact List.Mem.head _ | refine List.Mem.tail _ ?_)) Tryd.isAgg25 Tryd.sizeOf25 rfl) (fun hS => ?_)
    clear hK K
    try simp only [Act.put, sb, s0, sz]
    refine tV 6 ⟨some 3, .assign (.tmp 17), _, _, _, none⟩ hS ?_
    refine tV 7 ⟨some 4, .assign (.tmp 19), _, _, _, none⟩ hS ?_
    refine wpAnyH_done (by kernel_rfl) ?_ _
    all_goals
      clear hS
      go_wp2
      refine bodyPost_ret (results_c3 rfl hEs 0 rfl rfl Tryd.isAgg25 Tryd.sizeOf25 rfl rfl rfl) rfl ?_
      exact ⟨_, rfl, m, a, c1, a4, c4, rfl, hEs.tail.tail.tail.drop⟩
set_option maxRecDepth 100000 in
set_option maxHeartbeats 4000000 in
attribute [-go_sem] Instr.loadAt in
theorem Tree_good {es : List En} {t : Tr} (h : treeP es = some t) {ao : Option Addr} {c : Nat} {l : List HProp} {w : World} (hk : Knows l (reads (.slice ao es.length c) es.length (es.flatMap enC))) (hE : Ent l w) :
    Calls Tryd.prog 8 #[.slice ao es.length c] w (Ret (TgPost t l)) := by
  have HGr := SL.hid (fun (L : List HProp) (w : World) (hs : l <:+ L) (h : Ent L w) => show Calls Tryd.prog 28 #[.slice ao es.length c] w (Ret fun v w' => v = .bool (great es) ∧ Ent L w') from Great_any (hk.suf hs) h)
  have Tok := SL.hid True.intro
  have hgr : great es = false := by
    cases hg : great es with
    | false => rfl
    | true => rw [treeP, if_pos hg] at h; cases h
  rw [treeP, if_neg (by rw [hgr]; simp)] at h
  obtain ⟨hle, hbd⟩ := great_not.1 hgr
  have h0 : (buildT es).1 = 0 := by
    by_cases h0 : (buildT es).1 = 0
    · exact h0
    · rw [if_neg h0] at h; cases h
  rw [if_pos h0] at h
  have ht : (buildT es).2 = t := Option.some.inj h
  have hG := ((build_same es).2 h0).1
  rw [((build_same es).2 h0).2, ht] at hG
  have hw := hG.2.1
  have hal := all_perm hG
  rw [hgr] at HGr
  have HBu := SL.hid (fun (b2 : Nat) (w : World) (h : Ent (anyN b2 :: l) w) => show Calls Tryd.prog 29 #[.slice ao es.length c] w (Ret fun v w' => ∃ m a c1, v = .tuple #[.agg #[.bool t.dir, .string ⟨t.data.toArray⟩, .slice a t.kids.length c1], .int .i64 0] ∧ Ent (anyN b2 :: (m ++ l)) w' ∧ KidsAt (anyN b2 :: (m ++ l)) (.slice a t.kids.length c1) t.kids) from by
    refine (Build_any (by omega) (fun x hx => ⟨by have := (hbd x hx).1; omega, by have := (hbd x hx).2; omega⟩) (hk.suf (List.suffix_cons _ _)) h).mono ?_
    rintro e w' ⟨v, rfl, m, kv, h, hE, hK⟩
    rw [ht] at h hK
    rw [h0] at h
    obtain ⟨a, c', rfl⟩ := hK.slice
    exact ⟨_, rfl, m, a, c', h, Ent.swap (a := m) (b := [anyN b2]) hE, hK.mono (fun p hp W hW => hp W (Ent.swap (a := [anyN b2]) (b := m) hW))⟩)
  have HEn := SL.hid (fun (A B : HProp) (X : List HProp) (w : World) (a : Option Addr) (c1 : Nat) (hK : KidsAt (B :: X) (.slice a t.kids.length c1) t.kids) (h : Ent (A :: B :: X) w) => show Calls Tryd.prog 23 #[.agg #[.bool t.dir, .string ⟨t.data.toArray⟩, .slice a t.kids.length c1]] w (Ret fun v w' => ∃ a' c' m, v = .slice a' (entT 6 [] t).length c' ∧ Ent (A :: B :: rowEn a' c' (entT 6 [] t) :: (m ++ X)) w') from by
    refine (Entries_any (t := t) hw (by decide) (hK.suf (List.suffix_cons _ _)) (by rw [hal.length_eq]; omega) h).mono ?_
    rintro e w' ⟨v, rfl, a', c', m, h, hE⟩
    exact ⟨_, rfl, a', c', m, h, Ent.swap (a := rowEn a' c' (entT 6 [] t) :: m) (b := [A, B]) hE⟩)
  clear hgr h h0 ht hG hw hal hbd hle hk
  obtain ⟨all, ha⟩ : ∃ all, entT 6 [] t = all := ⟨_, rfl⟩
  rw [ha] at HEn
  have Ha := SL.hid ha
  clear ha
  go_enter Tryd.func8, Tryd.ntmps8
  go_wp2_with (first
    | go_skip
    | ((with_reducible (show Go.wpList _ _ _ (Go.Oper.mk _ (.alloc _) _ _ _ _ :: _) _ _)); clear Tok; ((with_reducible (show Go.wpList _ _ _ (Go.Oper.mk _ (.alloc _) _ _ _ _ :: _) _ _)); refine wpl_alloc hE rfl rfl (by simp [go_sem]; rfl) ?_; clear hE; intro b2 w hE; simp only [Act.eval, Act.put, List.setIfInBounds_toArray, List.set_cons_zero, List.set_cons_succ, getD_lit, List.getD_cons_succ, List.getD_cons_zero, Value.cells] at hE); replace hE := anyN_of hE)
    | ((with_reducible (show Go.wpList _ _ _ (Go.Oper.mk _ (.alloc _) _ _ _ _ :: _) _ _)); refine wpl_alloc hE rfl rfl (by simp [go_sem]; rfl) ?_; clear hE; intro b5 w hE; simp only [Act.eval, Act.put, List.setIfInBounds_toArray, List.set_cons_zero, List.set_cons_succ, getD_lit, List.getD_cons_succ, List.getD_cons_zero, Value.cells] at hE)
    | (go_at_call 28; refine (HGr.out _ _ (List.suffix_cons _ _) hE).mono ?_; clear hE; rintro e w2 ⟨v, rfl, rfl, hE⟩)
    | (go_at_call 29; refine (HBu.out _ _ hE).mono ?_; clear hE; rintro e w3 ⟨v, rfl, m, a, c1, rfl, hE, hKA⟩)
    | ((with_reducible (show Go.wpList _ _ _ (Go.Oper.mk _ (.store 25 _ _) _ _ _ _ :: _) _ _)); (first | (refine wpl_storeW hE 0 rfl rfl rfl (xs := [.bool t.dir, .string ⟨t.data.toArray⟩, .slice a t.kids.length c1]) rfl rfl Tryd.sizeOf25 rfl (by simp [Value.oneCell']) rfl ?_) | (refine wpl_storeW hE 1 rfl rfl rfl (xs := [.bool t.dir, .string ⟨t.data.toArray⟩, .slice a t.kids.length c1]) rfl rfl Tryd.sizeOf25 rfl (by simp [Value.oneCell']) rfl ?_) | (refine wpl_storeW hE 2 rfl rfl rfl (xs := [.bool t.dir, .string ⟨t.data.toArray⟩, .slice a t.kids.length c1]) rfl rfl Tryd.sizeOf25 rfl (by simp [Value.oneCell']) rfl ?_) | (refine wpl_storeW hE 3 rfl rfl rfl (xs := [.bool t.dir, .string ⟨t.data.toArray⟩, .slice a t.kids.length c1]) rfl rfl Tryd.sizeOf25 rfl (by simp [Value.oneCell']) rfl ?_) | (refine wpl_storeW hE 4 rfl rfl rfl (xs := [.bool t.dir, .string ⟨t.data.toArray⟩, .slice a t.kids.length c1]) rfl rfl Tryd.sizeOf25 rfl (by simp [Value.oneCell']) rfl ?_) | (refine wpl_storeW hE 5 rfl rfl rfl (xs := [.bool t.dir, .string ⟨t.data.toArray⟩, .slice a t.kids.length c1]) rfl rfl Tryd.sizeOf25 rfl (by simp [Value.oneCell']) rfl ?_) | (refine wpl_storeW hE 6 rfl rfl rfl (xs := [.bool t.dir, .string ⟨t.data.toArray⟩, .slice a t.kids.length c1]) rfl rfl Tryd.sizeOf25 rfl (by simp [Value.oneCell']) rfl ?_) | (refine wpl_storeW hE 7 rfl rfl rfl (xs := [.bool t.dir, .string ⟨t.data.toArray⟩, .slice a t.kids.length c1]) rfl rfl Tryd.sizeOf25 rfl (by simp [Value.oneCell']) rfl ?_)); clear hE; intro w hE; simp only [List.set_cons_zero, List.set_cons_succ] at hE))
  replace HEn := SL.hid (fun (w : World) (h : Ent (pt b5 (.cells #[.bool t.dir, .string ⟨t.data.toArray⟩, .slice a t.kids.length c1] 25) :: anyN b2 :: (m ++ l)) w) => HEn.out _ _ _ w a c1 hKA h)
  refine wp_region_held_drew (S := (fun w' => ((Instr.loadAt 25 (.pointer (some ⟨b5, 0, none⟩))).run Tryd.prog w' = .ok (.agg [.bool t.dir, .string ⟨t.data.toArray⟩, .slice a t.kids.length c1].toArray) w'))) (by kernel_rfl) (atWm hE.drew (by repeat (first | exact List.Mem.head _ | refine List.Mem.tail _ ?_)) Tryd.isAgg25 Tryd.sizeOf25 rfl) (fun hS => ?_)
  refine tL 0 ⟨some 15, .load 25 (.tmp 5), _, _, _, none⟩ hS ?_
  refine tL 1 ⟨some 16, .load 25 (.tmp 5), _, _, _, none⟩ hS ?_
  refine tV 3 ⟨some 18, .move (.tmp 6), _, _, _, none⟩ hS ?_
  refine tV 4 ⟨some 19, .binOp .eql 44 (.tmp 18) (.const (.int .i64 0)) 44, _, _, _, none⟩ hS ?_
  refine wpAnyH_ready (rs := [2]) (by kernel_rfl) (by simp) ?_
  refine (AllReadyH.cons (o := ⟨some 17, .call { callee := .value (.func 23), args := #[.tmp 16], argTypes := #[25] }, _, _, _, none⟩) rfl (fun K hK => ?_) AllReadyH.nil)
  (go_simp; refine (HEn.out _ hE.drew).mono ?_; rintro e w4 ⟨v, rfl, a4, c4, m4, rfl, hR⟩)
  refine hK.out _ _ (atWm hR (by repeat (first | exact List.Mem.head _ | refine List.Mem.tail _ ?_)) Tryd.isAgg25 Tryd.sizeOf25 rfl) (fun hS => ?_)
  clear hK K
  try simp only [Act.put, sb, s0, sz]
  refine wpAnyH_ready (rs := [5]) (by kernel_rfl) (by simp) ?_
  refine (AllReadyH.cons (o := ⟨none, .store 25 (.tmp 2) (.tmp 15), _, _, _, none⟩) rfl (fun K hK => ?_) AllReadyH.nil)
  ((first | obtain ⟨⟨z0, z1, z2⟩, hU⟩ := (hR.front 1 rfl).unpack | obtain ⟨⟨z0, z1, z2⟩, hU⟩ := (hE.drew.front 1 rfl).unpack); refine step_storeW hU 0 rfl (by rfl) (by rfl) (by rfl) (xs := [.bool t.dir, .string ⟨t.data.toArray⟩, .slice a t.kids.length c1]) (by rfl) Tryd.sizeOf25 rfl (by simp [Value.oneCell']) rfl ?_; intro w7 hEs; simp only [List.set_cons_zero, List.set_cons_succ, List.cons_append, List.nil_append] at hEs)
  refine hK.out _ _ (atWm hEs (by repeat (first | exact List.Mem.head _ | refine List.Mem.tail _ ?_)) Tryd.isAgg25 Tryd.sizeOf25 rfl) (fun hS => ?_)
  clear hK K
  try simp only [Act.put, sb, s0, sz]
  refine tV 6 ⟨some 3, .assign (.tmp 17), _, _, _, none⟩ hS ?_
  refine tV 7 ⟨some 4, .assign (.tmp 19), _, _, _, none⟩ hS ?_
  refine wpAnyH_done (by kernel_rfl) ?_ _
  all_goals
    clear hS
    go_wp2
    refine bodyPost_ret (results_c3 rfl hEs 0 rfl rfl Tryd.isAgg25 Tryd.sizeOf25 rfl rfl rfl) rfl ?_
    refine ⟨_, rfl, anyN b2 :: pt b5 (.cells #[.bool t.dir, .string ⟨t.data.toArray⟩, .slice a t.kids.length c1] 25) :: rowEn a4 c4 all :: (m4 ++ m), a, c1, a4, c4, by rw [Ha.out]; rfl, ?_, ?_, ?_⟩
    · simp only [List.append_assoc, List.cons_append]
      exact anyN_of hEs
    · refine hKA.mono (fun p hp W hW => hp W ?_)
      simp only [List.append_assoc, List.cons_append] at hW
      exact (Ent.swap (a := [anyN b2]) (b := m4) ((((hW.front 1 rfl).tail).front 1 rfl).tail)).drop
    · rw [Ha.out]
      exact fun W hW => reads_row hW 2 rfl
end Go.Proofs.YtcpgelpajppgdaaDoor
namespace Go.Proofs.YtcpgelpajppgdaaDoor
open Go.RowKit Go.SL

def JA (p1 p2 : Nat) (L0 : List HProp) (done : List (Option En × Option Ch)) (L : List HProp) : Prop := ∃ ao c, L = boA p1 p2 ao c (done.filterMap stepA) (done.all fun p => fitA p.1 p.2) L0
theorem boA_suf {p1 p2 : Nat} {ao : Option Addr} {c : Nat} {out : List En} {ok : Bool} {L0 : List HProp} : L0 <:+ boA p1 p2 ao c out ok L0 := (List.suffix_cons _ _).trans ((List.suffix_cons _ _).trans (List.suffix_cons _ _))
theorem stepA_x (x : En) : stepA (some x, none) = some x := rfl
theorem JA_do {p1 p2 : Nat} {L0 : List HProp} {BB : List (Option En × Option Ch)} (hB : BB.length ≤ 1000000) (hs : ∀ p ∈ BB, p.1 ≠ none ∨ p.2 ≠ none) : ∀ done x y px py L w, (∃ r, done ++ (x, y) :: r = BB) → JA p1 p2 L0 done L → L0 <:+ L → Ent L w → ptrE L0 enC x px → ptrE L0 chC y py →
    Calls Tryd.prog 45 #[px, py, .pointer (some ⟨p1, 0, none⟩), .pointer (some ⟨p2, 0, none⟩)] w (Ret fun _ w' => ∃ L', JA p1 p2 L0 (done ++ [(x, y)]) L' ∧ L0 <:+ L' ∧ Ent L' w') := by
  rintro done x y px py L w ⟨r, hr⟩ ⟨ao, c, rfl⟩ _ hE hx hy
  have hn : (done.filterMap stepA).length ≤ 1000000 := by
    have h1 := List.length_filterMap_le stepA done
    have h2 := congrArg List.length hr
    rw [List.length_append] at h2
    omega
  have hxy := hs (x, y) (by rw [← hr]; simp)
  have fin : ∀ w', A1Post p1 p2 (done.filterMap stepA ++ (stepA (x, y)).toList) ((done.all fun p => fitA p.1 p.2) && fitA x y) L0 w' → ∃ L', JA p1 p2 L0 (done ++ [(x, y)]) L' ∧ L0 <:+ L' ∧ Ent L' w' := by
    rintro w' ⟨a7, c7, h⟩
    refine ⟨_, ⟨a7, c7, rfl⟩, boA_suf, ?_⟩
    rw [List.filterMap_append, List.all_append]
    have e1 : List.filterMap stepA [(x, y)] = (stepA (x, y)).toList := by cases h : stepA (x, y) <;> simp [h]
    have e2 : ([(x, y)].all fun p => fitA p.1 p.2) = fitA x y := by simp
    rw [e1, e2]
    exact h
  cases x with
  | none =>
    cases y with
    | none => simp at hxy
    | some b =>
      subst hx
      obtain ⟨b_y, oy, rfl, hy⟩ := hy
      refine (app1_c hy hn hE).mono ?_
      rintro e w' ⟨v, rfl, h⟩
      exact ⟨v, rfl, fin _ h⟩
  | some a =>
    obtain ⟨bx, ox, rfl, hx⟩ := hx
    cases y with
    | none =>
      subst hy
      refine (app1_x hx hn hE).mono ?_
      rintro e w' ⟨v, rfl, h⟩
      exact ⟨v, rfl, fin _ (by rw [stepA_x]; simpa [fitA] using h)⟩
    | some b =>
      obtain ⟨b_y, oy, rfl, hy⟩ := hy
      refine (app1_xc hx hy hn hE).mono ?_
      rintro e w' ⟨v, rfl, h⟩
      exact ⟨v, rfl, fin _ h⟩
def pairsA (es : List En) (l : List Ch) : List (Option En × Option Ch) := (sortK (es.map En.path ++ l.map Ch.path)).map (pairAt En.path Ch.path es l)
noncomputable def apR (es : List En) (l : List Ch) : Int × Tr := if mayB l = true then (if ((pairsA es l).all fun p => fitA p.1 p.2) = true then buildT ((pairsA es l).filterMap stepA) else (10, .zero)) else (3, .zero)
theorem stepA_ok {es : List En} {l : List Ch} (he : ∀ x ∈ es, x.path.length ≤ 1000000 ∧ x.data.length ≤ 1000000) (hl : ∀ x ∈ l, x.path.length ≤ 1000000 ∧ x.now.data.length ≤ 1000000) : ∀ x ∈ (pairsA es l).filterMap stepA, x.path.length ≤ 1000000 ∧ x.data.length ≤ 1000000 := by
  intro x hx
  obtain ⟨p, hp, h⟩ := List.mem_filterMap.1 hx
  obtain ⟨k, hk, rfl⟩ := List.mem_map.1 hp
  unfold stepA at h
  split at h
  · unfold pairAt actO at h
    simp only at h
    split at h
    · exact he x (List.mem_of_find?_eq_some h)
    · next c hc =>
      have := hl c (List.mem_of_find?_eq_some hc)
      split at h
      · cases h; exact this
      · cases h
  · cases h
def ApPost (r : Int × Tr) (l : List HProp) (v : Value) (w' : World) : Prop := ∃ (m : List HProp) (a : Option Addr) (c : Nat), v = .tuple #[.agg #[.bool r.2.dir, .string ⟨r.2.data.toArray⟩, .slice a r.2.kids.length c], .int .i64 r.1] ∧ Ent (m ++ l) w' ∧ KidsAt (m ++ l) (.slice a r.2.kids.length c) r.2.kids
theorem ApPost.zero {er : Int} {l : List HProp} {w : World} {m : List HProp} (hE : Ent (m ++ l) w) : ApPost (er, .zero) l (.tuple #[.agg #[.bool false, .string ⟨#[]⟩, .slice none 0 0], .int .i64 er]) w := ⟨m, none, 0, rfl, hE, KidsAt.nil _⟩
set_option maxRecDepth 100000 in
set_option maxHeartbeats 4000000 in
theorem Apply_in {t : Tr} (ht : Tr.Wf 6 t) {cs : List Ch} (hn : (entT 6 [] t).length + cs.length ≤ 1000) (hed : ∀ x ∈ entT 6 [] t, x.data.length ≤ 1000000) (hpc : ∀ x ∈ cs, x.path.length ≤ 100000 ∧ x.now.data.length ≤ 1000000) {kv : Value} {ao : Option Addr} {c : Nat} (hc : cs.length ≤ c) {l : List HProp} (hkv : KidsAt l kv t.kids) {w : World}
    (hM : ∀ L w, l <:+ L → Ent L w → Calls Tryd.prog 42 #[.slice ao cs.length c] w (Ret (MPost cs L)))
    (hk : Knows l (reads (.slice ao cs.length c) cs.length (cs.flatMap chC))) (hE : Ent l w) :
    Calls Tryd.prog 20 #[nodeV t kv, .slice ao cs.length c] w (Ret (ApPost (apR (entT 6 [] t) cs) l)) := by
  have HM := SL.hid hM
  clear hM
  unfold apR
  unfold MPost at HM
  have hr := may_rise (es := cs)
  generalize mayB cs = mb at *
  unfold nodeV
  cases mb with
  | false =>
    clear hr
    simp only [Bool.false_eq_true, if_false]
    go_enter Tryd.func20, Tryd.ntmps20
    go_wp2_with (first
      | go_skip
      | ((with_reducible (show Go.wpList _ _ _ (Go.Oper.mk _ (.box _ _) _ _ _ _ :: _) _ _)); refine wpl_box hE rfl rfl rfl ?_; clear hE; intro b2 w hE; simp only [Act.eval, Act.put, List.setIfInBounds_toArray, List.set_cons_zero, List.set_cons_succ, getD_lit, List.getD_cons_succ, List.getD_cons_zero, Value.cells] at hE)
      | ((with_reducible (show Go.wpList _ _ _ (Go.Oper.mk _ (.alloc _) _ _ _ _ :: _) _ _)); refine wpl_alloc hE rfl rfl (by simp [go_sem]; rfl) ?_; clear hE; intro b4 w hE; simp only [Act.eval, Act.put, List.setIfInBounds_toArray, List.set_cons_zero, List.set_cons_succ, getD_lit, List.getD_cons_succ, List.getD_cons_zero, Value.cells] at hE)
      | (go_at_call 42; refine (HM.out _ _ sfx hE).mono ?_; clear hE; rintro e w2 ⟨v, h1, h2, hE⟩; cases h1; cases h2)
      | ((with_reducible (show Go.wpList _ _ _ (Go.Oper.mk _ (.store 25 _ _) _ _ _ _ :: _) _ _)); (first | (refine wpl_storeW hE 0 rfl rfl rfl (xs := [.bool false, .string ⟨#[]⟩, .slice none 0 0]) rfl rfl Tryd.sizeOf25 rfl (by simp [Value.oneCell']) rfl ?_) | (refine wpl_storeW hE 1 rfl rfl rfl (xs := [.bool false, .string ⟨#[]⟩, .slice none 0 0]) rfl rfl Tryd.sizeOf25 rfl (by simp [Value.oneCell']) rfl ?_) | (refine wpl_storeW hE 2 rfl rfl rfl (xs := [.bool false, .string ⟨#[]⟩, .slice none 0 0]) rfl rfl Tryd.sizeOf25 rfl (by simp [Value.oneCell']) rfl ?_) | (refine wpl_storeW hE 3 rfl rfl rfl (xs := [.bool false, .string ⟨#[]⟩, .slice none 0 0]) rfl rfl Tryd.sizeOf25 rfl (by simp [Value.oneCell']) rfl ?_) | (refine wpl_storeW hE 4 rfl rfl rfl (xs := [.bool false, .string ⟨#[]⟩, .slice none 0 0]) rfl rfl Tryd.sizeOf25 rfl (by simp [Value.oneCell']) rfl ?_) | (refine wpl_storeW hE 5 rfl rfl rfl (xs := [.bool false, .string ⟨#[]⟩, .slice none 0 0]) rfl rfl Tryd.sizeOf25 rfl (by simp [Value.oneCell']) rfl ?_) | (refine wpl_storeW hE 6 rfl rfl rfl (xs := [.bool false, .string ⟨#[]⟩, .slice none 0 0]) rfl rfl Tryd.sizeOf25 rfl (by simp [Value.oneCell']) rfl ?_) | (refine wpl_storeW hE 7 rfl rfl rfl (xs := [.bool false, .string ⟨#[]⟩, .slice none 0 0]) rfl rfl Tryd.sizeOf25 rfl (by simp [Value.oneCell']) rfl ?_)); clear hE; intro w hE; simp only [List.set_cons_zero, List.set_cons_succ] at hE))
    refine bodyPost_ret (results_cell2 rfl hE 0 rfl rfl Tryd.isAgg25 Tryd.sizeOf25 rfl rfl) rfl ?_
    exact ⟨_, rfl, ApPost.zero (m := []) hE.tail.tail⟩
  | true =>
  simp only [if_true]
  have hBB : bothB En.path Ch.path ((entT 6 [] t).length + cs.length) (entT 6 [] t) cs = pairsA (entT 6 [] t) cs := both_sorted (Nat.le_refl _) (ent_rise ht) (hr rfl)
  have hBl := both_len En.path Ch.path ((entT 6 [] t).length + cs.length) (entT 6 [] t) cs
  have hBs := both_some En.path Ch.path ((entT 6 [] t).length + cs.length) (entT 6 [] t) cs
  have hel : ∀ x ∈ entT 6 [] t, x.path.length ≤ 100000 := fun x hx => by have := ent_len ht hx; omega
  have hok := stepA_ok (es := entT 6 [] t) (l := cs) (fun x hx => ⟨by have := hel x hx; omega, hed x hx⟩) (fun x hx => ⟨by have := (hpc x hx).1; omega, (hpc x hx).2⟩)
  have HEn := SL.hid (fun (L : List HProp) (w : World) (hs : l <:+ L) (h : Ent L w) => Entries_any ht (by decide) (hkv.suf hs) (by omega) h)
  unfold nodeV at HEn
  rw [hBB] at hBl hBs
  generalize entT 6 [] t = es at *
  have HB := SL.hid (fun (L0 L : List HProp) (p1 p2 : Nat) (a1 : Option Addr) (c1 : Nat) (h1 : es.length ≤ c1) hx hy hs (w : World) (hE : Ent L w) (hJ : JA p1 p2 L0 [] L) => both43_any (p1 := p1) (p2 := p2) (L0 := L0) (J := JA p1 p2 L0) (ao := a1) (bo := ao) (c := c1) (d := c) (JA_do (by omega) hBs) (Nat.le_refl _) hBB h1 hc hel (fun x hx => (hpc x hx).1) hx hy hJ hs hE)
  have hfl : ((pairsA es cs).filterMap stepA).length ≤ 1000 := by
    have h1 := List.length_filterMap_le stepA (pairsA es cs)
    omega
  have HBu := SL.hid (fun (L : List HProp) (w : World) (a1 : Option Addr) (c1 : Nat) hk (h : Ent L w) => Build_any (es := (pairsA es cs).filterMap stepA) (ao := a1) (c := c1) hfl hok hk h)
  generalize pairsA es cs = BB at *
  clear hBB hBl hBs hr hel hok hfl hed hpc ht hkv
  obtain ⟨XR, hXR⟩ : ∃ XR : Int × Tr, (if (BB.all fun p => fitA p.1 p.2) = true then buildT (BB.filterMap stepA) else (10, .zero)) = XR := ⟨_, rfl⟩
  have HXR := SL.hid hXR
  rw [hXR]
  clear hXR
  have A1 := SL.hid True.intro
  go_enter Tryd.func20, Tryd.ntmps20
  go_wp2_with (first
    | go_skip
    | ((with_reducible (show Go.wpList _ _ _ (Go.Oper.mk _ (.box _ _) _ _ _ _ :: _) _ _)); refine wpl_box hE rfl rfl rfl ?_; clear hE; intro b2 w hE; simp only [Act.eval, Act.put, List.setIfInBounds_toArray, List.set_cons_zero, List.set_cons_succ, getD_lit, List.getD_cons_succ, List.getD_cons_zero, Value.cells] at hE)
    | ((with_reducible (show Go.wpList _ _ _ (Go.Oper.mk _ (.alloc 25) _ _ _ _ :: _) _ _)); refine wpl_alloc hE rfl rfl (by simp [go_sem]; rfl) ?_; clear hE; intro b4 w hE; simp only [Act.eval, Act.put, List.setIfInBounds_toArray, List.set_cons_zero, List.set_cons_succ, getD_lit, List.getD_cons_succ, List.getD_cons_zero, Value.cells] at hE; replace hE := anyN_of hE)
    | (go_at_call 42; refine (HM.out _ _ sfx hE).mono ?_; clear hE; rintro e w2 ⟨v, h1, h2, hE⟩; cases h1; cases h2)
    | ((with_reducible (show Go.wpList _ _ _ (Go.Oper.mk _ (.alloc 22) _ _ _ _ :: _) _ _)); refine wpl_alloc hE rfl rfl (by simp [go_sem]; rfl) ?_; clear hE; intro b6 w hE; simp only [Act.eval, Act.put, List.setIfInBounds_toArray, List.set_cons_zero, List.set_cons_succ, getD_lit, List.getD_cons_succ, List.getD_cons_zero, Value.cells] at hE)
    | ((with_reducible (show Go.wpList _ _ _ (Go.Oper.mk _ (.alloc 4) _ _ _ _ :: _) _ _)); refine wpl_alloc hE rfl rfl (by simp [go_sem]; rfl) ?_; clear hE; intro b7 w hE; simp only [Act.eval, Act.put, List.setIfInBounds_toArray, List.set_cons_zero, List.set_cons_succ, getD_lit, List.getD_cons_succ, List.getD_cons_zero, Value.cells] at hE)
    | ((with_reducible (show Go.wpList _ _ _ (Go.Oper.mk _ (.store 4 _ _) _ _ _ _ :: _) _ _)); refine wpl_st1 hE 0 rfl rfl rfl rfl rfl (by first | (simp [go_sem]; done) | (simp [go_sem]; rfl)) rfl rfl (by simp) ?_; clear hE; intro w7 hE; simp only [List.set_cons_zero, List.set_cons_succ] at hE)
    | ((with_reducible (show Go.wpList _ _ _ (Go.Oper.mk _ (.load 25 _) _ _ _ _ :: _) _ _)); refine wpl_loadW hE 3 rfl rfl rfl rfl Tryd.isAgg25 Tryd.sizeOf25 rfl ?_)
    | (go_at_call 23; refine (HEn.out _ _ sfx hE).mono ?_; clear hE; rintro e w2 ⟨v, h1, a1, c1, m1, h2, hE⟩; cases h1; cases h2)
    | (go_at_call 43; (have hs1 := Ent.swap (a := rowEn a1 c1 es :: m1) (b := [pt b7 (.cells #[.bool true] 4), pt b6 (.cells #[.slice none 0 0] 22), anyN b4]) hE; have hQ2 : Ent (boA b6 b7 none 0 [] true (anyN b4 :: rowEn a1 c1 es :: (m1 ++ (pt b2 (.cells #[.bool t.dir, .string ⟨t.data.toArray⟩, kv] 25) :: l)))) _ := ((hs1.nil 63 3).front 1 rfl).front 2 rfl; refine (HB.out (anyN b4 :: rowEn a1 c1 es :: (m1 ++ (pt b2 (.cells #[.bool t.dir, .string ⟨t.data.toArray⟩, kv] 25) :: l))) _ b6 b7 a1 c1 (row_capQ hE 0 rfl) (fun w h => reads_row h 1 rfl) (hk.suf sfx) boA_suf _ hQ2 ⟨none, 0, rfl⟩).mono ?_; clear hQ2 hs1 hE; rintro e w5 ⟨v, h1, L9, ⟨a3, c3, h3⟩, h4, hE⟩; cases h1; subst h3; unfold boA at hE; obtain ⟨ok, hok⟩ : ∃ ok, (BB.all fun p => fitA p.1 p.2) = ok := ⟨_, rfl⟩; rw [hok] at hE HXR; clear hok h4))
    | ((with_reducible (show Go.wpList _ _ _ (Go.Oper.mk _ (.load 4 _) _ _ _ _ :: _) _ _)); refine wpl_load1 hE 1 rfl rfl rfl rfl (by simp [go_sem]) rfl ?_)
    | ((with_reducible (show Go.wpList _ _ _ (Go.Oper.mk _ (.load 22 _) _ _ _ _ :: _) _ _)); refine wpl_load1 hE 0 rfl rfl rfl rfl (by simp [go_sem]) rfl ?_)
    | (go_at_call 29; (refine (HBu.out _ _ _ _ (fun w h => reads_row h 2 rfl) hE).mono ?_; clear hE; rintro e w2 ⟨v, h1, m2, kv2, h2, hE, hKA⟩; obtain ⟨a9, c9, rfl⟩ := hKA.slice; cases h1; cases h2; replace hE := Ent.swap (a := m2) (b := [_, _, _, _]) hE; simp only [List.cons_append, List.nil_append] at hE))
    | ((with_reducible (show Go.wpList _ _ _ (Go.Oper.mk _ (.store 25 _ _) _ _ _ _ :: _) _ _)); (obtain ⟨⟨z0, z1, z2⟩, hU⟩ := (hE.front 3 rfl).unpack; (first | refine wpl_storeW hU 0 rfl rfl rfl (xs := [.bool false, .string ⟨#[]⟩, .slice none 0 0]) rfl rfl Tryd.sizeOf25 rfl (by simp [Value.oneCell']) rfl ?_ | refine wpl_storeW hU 0 rfl rfl rfl (xs := [.bool (buildT (BB.filterMap stepA)).2.dir, .string ⟨(buildT (BB.filterMap stepA)).2.data.toArray⟩, .slice a9 (buildT (BB.filterMap stepA)).2.kids.length c9]) rfl rfl Tryd.sizeOf25 rfl (by simp [Value.oneCell']) rfl ?_); clear hE hU; intro w8 hE; simp only [List.set_cons_zero, List.set_cons_succ, List.cons_append, List.nil_append, List.eraseIdx_cons_succ, List.eraseIdx_cons_zero] at hE)))
  · next h =>
    refine bodyPost_ret (results_cell2 rfl hE 0 rfl rfl Tryd.isAgg25 Tryd.sizeOf25 rfl rfl) rfl ?_
    refine ⟨_, rfl, ?_⟩
    obtain rfl : ok = false := by simpa using h
    rw [← HXR.out]
    exact ApPost.zero (m := []) hE.tail.tail.tail.tail.tail.drop.tail
  · next h =>
    refine bodyPost_ret (results_cell2 rfl hE 0 rfl rfl Tryd.isAgg25 Tryd.sizeOf25 rfl rfl) rfl ?_
    refine ⟨_, rfl, ?_⟩
    obtain rfl : ok = true := by simpa using h
    rw [← HXR.out]
    refine ⟨m2 ++ (pt b6 (.cells #[.slice a3 (BB.filterMap stepA).length c3] 22) :: pt b7 (.cells #[.bool true] 4) :: rowEn a3 c3 (BB.filterMap stepA) :: anyN b4 :: rowEn a1 c1 es :: (m1 ++ [pt b2 (.cells #[.bool t.dir, .string ⟨t.data.toArray⟩, kv] 25)])), a9, c9, rfl, ?_, ?_⟩
    · have h1 := Ent.swap (a := [_, _, _, _]) (b := m2) (Ent.swap (a := [_]) (b := [_, _, _]) (anyN_of hE))
      simpa using h1
    · simpa using hKA
end Go.Proofs.YtcpgelpajppgdaaDoor
namespace Go.Proofs.YtcpgelpajppgdaaDoor
open Go.RowKit Go.SL

theorem ent_path {t : Tr} (hw : Tr.Wf 6 t) {y : En} (hy : y ∈ entT 6 [] t) : splitE y.path = 0 ∧ splitL y.path ≠ [] ∧ y.path ≠ [] := by
  obtain ⟨s, k, hs, hg, rfl⟩ := (entT_mem hw).1 hy
  obtain ⟨hqa, hq6⟩ := get_names hw hg
  obtain ⟨h1, h2⟩ := join_split hs hqa hq6
  simp only [List.nil_append]
  exact ⟨h2, by rw [h1]; exact hs, joinP_ne hs hqa⟩
theorem dir_ent {t : Tr} (hw : Tr.Wf 6 t) {y : En} (hy : y ∈ entT 6 [] t) : y.dir = true → y.data = [] := by
  obtain ⟨s, k, hs, hg, rfl⟩ := (entT_mem hw).1 hy
  obtain ⟨e, hk⟩ := wf_get hw hg
  exact fun hd => Tr.wf_data hk hd
theorem may_side {t : Tr} (hw : Tr.Wf 6 t) (k : List UInt8) : maySd (fE (entT 6 [] t) k) = true := by
  rw [fE]
  cases h : (entT 6 [] t).find? (fun x => x.path == k) with
  | none => rfl
  | some x =>
    have hx := dir_ent hw (find_key h).2
    obtain ⟨xp, xd, xb⟩ := x
    cases xd with
    | false => rfl
    | true =>
      have : xb = [] := hx rfl
      subst this
      rfl
theorem may_diff {t u : Tr} (ht : Tr.Wf 6 t) (hu : Tr.Wf 6 u) : mayC (diffP (entT 6 [] t) (entT 6 [] u)) = true := by
  refine List.all_eq_true.2 fun c hc => ?_
  obtain ⟨k, hk, hc⟩ := List.mem_filterMap.1 hc
  rw [sortK_mem, List.mem_append] at hk
  have hp : splitE k = 0 ∧ splitL k ≠ [] ∧ k ≠ [] := by
    rcases hk with hk | hk
    · obtain ⟨y, hy, rfl⟩ := List.mem_map.1 hk
      exact ent_path ht hy
    · obtain ⟨y, hy, rfl⟩ := List.mem_map.1 hk
      exact ent_path hu hy
  simp only [chg] at hc
  split at hc
  · cases hc
  · next hne =>
    cases hc
    have h1 := may_side ht k
    have h2 := may_side hu k
    simp only
    rw [hp.1, h1, h2]
    simp [hp.2.1, hne]
/-- of a path, in a tree's entries -/
theorem fE_at {t : Tr} (hw : Tr.Wf 6 t) {s : List (List UInt8)} (hs : s ≠ []) (ha : s.all isName = true) (h6 : s.length ≤ 6) : fE (entT 6 [] t) (joinP s) = match Tr.get? s t with | some k => ⟨true, k.dir, k.data⟩ | none => .no := by
  cases hg : Tr.get? s t with
  | some k =>
    have hm : (⟨joinP s, k.dir, k.data⟩ : En) ∈ entT 6 [] t := (entT_mem hw).2 ⟨s, k, hs, hg, rfl⟩
    have := find_rise (ent_rise hw) hm
    rw [fE]
    change sideO ((entT 6 [] t).find? fun z => z.path == joinP s) = _
    rw [show ((entT 6 [] t).find? fun z => z.path == joinP s) = some ⟨joinP s, k.dir, k.data⟩ from this]
    rfl
  | none =>
    refine fE_none fun h => ?_
    obtain ⟨y, hy, e⟩ := List.mem_map.1 h
    obtain ⟨s', k, hs', hg', rfl⟩ := (entT_mem hw).1 hy
    obtain ⟨ha', h6'⟩ := get_names hw hg'
    have h1 := (join_split hs ha h6).1
    have h2 := (join_split hs' ha' h6').1
    simp only [List.nil_append] at e
    rw [e, h1] at h2
    rw [h2, hg'] at hg
    cases hg
end Go.Proofs.YtcpgelpajppgdaaDoor
namespace Go.Proofs.YtcpgelpajppgdaaDoor
open Go.RowKit Go.SL

def ofP (t : Tr) (p : List UInt8) : Sd := if splitE p = 0 then (if (atT 11 10 (splitL p) t).1 = 0 then ⟨true, (atT 11 10 (splitL p) t).2.dir, (atT 11 10 (splitL p) t).2.data⟩ else .no) else .no
def OfPost (s : Sd) (l : List HProp) (v : Value) (w' : World) : Prop := v = sdV s ∧ ∃ m, Ent (m ++ l) w'
set_option maxRecDepth 100000 in
set_option maxHeartbeats 4000000 in
theorem Of_any {t : Tr} (ht : Tr.Wf 6 t) {kv : Value} {p : List UInt8} (hp : p.length ≤ 100000) {l : List HProp} (hkv : KidsAt l kv t.kids) {w : World} (hE : Ent l w) :
    Calls Tryd.prog 14 #[nodeV t kv, .string ⟨p.toArray⟩] w (Ret (OfPost (ofP t p) l)) := by
  have HS := SL.hid (fun (L : List HProp) (w : World) (h : Ent L w) => Split_any (p := p) (by omega) h)
  have hl6 : splitE p = 0 → (splitL p).length ≤ 1000 := by
    intro h
    unfold splitE at h
    unfold splitL
    split
    · simp
    · rename_i h0
      rw [if_neg h0] at h
      split at h
      · next h1 =>
        rw [if_pos h1]
        split at h
        · next h2 => rw [if_pos h2]; omega
        · cases h
      · cases h
  have HAt := SL.hid (fun (h0 : splitE p = 0) (L : List HProp) (w : World) (hs : l <:+ L) (a1 : Option Addr) (c1 : Nat) hk (h : Ent L w) => At_any ht (hkv.suf hs) (q := splitL p) (hl6 h0) (an := a1) (cn := c1) hk h)
  have HSo := SL.hid (fun (T : Tr) (v : Value) (L : List HProp) (w : World) (h : Ent L w) => sideOf_any (t := T) (kv := v) h)
  unfold ofP
  unfold nodeV at *
  generalize splitL p = q at *
  by_cases h0 : splitE p = 0
  · rw [if_pos h0]
    rw [h0] at HS
    have HAt := SL.hid (HAt.out h0)
    clear h0 hl6
    generalize atT 11 10 q t = r at *
    obtain ⟨er, T⟩ := r
    simp only at HAt ⊢
    cases hne : (er != 0) with
    | true =>
      rw [if_neg (by simpa using hne)]
      go_enter Tryd.func14, Tryd.ntmps14
      go_wp2_with (first
        | go_skip
        | ((with_reducible (show Go.wpList _ _ _ (Go.Oper.mk _ (.box _ _) _ _ _ _ :: _) _ _)); refine wpl_box hE rfl rfl rfl ?_; clear hE; intro b2 w hE; simp only [Act.eval, Act.put, List.setIfInBounds_toArray, List.set_cons_zero, List.set_cons_succ, getD_lit, List.getD_cons_succ, List.getD_cons_zero, Value.cells] at hE)
        | ((with_reducible (show Go.wpList _ _ _ (Go.Oper.mk _ (.alloc 36) _ _ _ _ :: _) _ _)); refine wpl_alloc hE rfl rfl (by simp [go_sem]; rfl) ?_; clear hE; intro b4 w hE; simp only [Act.eval, Act.put, List.setIfInBounds_toArray, List.set_cons_zero, List.set_cons_succ, getD_lit, List.getD_cons_succ, List.getD_cons_zero, Value.cells] at hE)
        | ((with_reducible (show Go.wpList _ _ _ (Go.Oper.mk _ (.alloc 25) _ _ _ _ :: _) _ _)); refine wpl_alloc hE rfl rfl (by simp [go_sem]; rfl) ?_; clear hE; intro b7 w hE; simp only [Act.eval, Act.put, List.setIfInBounds_toArray, List.set_cons_zero, List.set_cons_succ, getD_lit, List.getD_cons_succ, List.getD_cons_zero, Value.cells] at hE)
        | (go_at_call 36; refine (HS.out _ _ hE).mono ?_; clear hE; rintro e w2 ⟨v, h1, a1, c1, h2, hE⟩; cases h1; cases h2)
        | ((with_reducible (show Go.wpList _ _ _ (Go.Oper.mk _ (.load 25 (.tmp 2)) _ _ _ _ :: _) _ _)); refine wpl_loadW (xs := [.bool t.dir, .string ⟨t.data.toArray⟩, kv]) hE 2 rfl rfl rfl rfl Tryd.isAgg25 Tryd.sizeOf25 rfl ?_)
        | (go_at_call 37; refine (HAt.out _ _ sfx _ _ (fun w h => reads_row h 0 rfl) hE).mono ?_; clear hE; rintro e w2 ⟨v, h1, kv2, h2, hE, hK⟩; obtain ⟨a9, c9, rfl⟩ := hK.slice; cases h1; cases h2)
        | ((with_reducible (show Go.wpList _ _ _ (Go.Oper.mk _ (.store 25 _ _) _ _ _ _ :: _) _ _)); refine wpl_storeW hE 0 rfl rfl rfl (xs := [.bool T.dir, .string ⟨T.data.toArray⟩, .slice a9 T.kids.length c9]) rfl rfl Tryd.sizeOf25 rfl (by simp [Value.oneCell']) rfl ?_; clear hE; intro w8 hE; simp only [List.set_cons_zero] at hE)
        | ((with_reducible (show Go.wpList _ _ _ (Go.Oper.mk _ (.store 36 _ _) _ _ _ _ :: _) _ _)); refine wpl_storeW hE 2 rfl rfl rfl (xs := [.bool false, .bool false, .string ⟨#[]⟩]) rfl rfl Tryd.sizeOf36 rfl (by simp [Value.oneCell']) rfl ?_; clear hE; intro w8 hE; simp only [List.set_cons_zero, List.set_cons_succ] at hE))
      refine bodyPost_ret (results_cellA rfl hE 2 rfl rfl Tryd.isAgg36 Tryd.sizeOf36 rfl) rfl ?_
      exact ⟨_, rfl, rfl, [], hE.tail.tail.tail.tail⟩
    | false =>
      obtain rfl : er = 0 := by simpa using hne
      rw [if_pos rfl]
      go_enter Tryd.func14, Tryd.ntmps14
      go_wp2_with (first
        | go_skip
        | ((with_reducible (show Go.wpList _ _ _ (Go.Oper.mk _ (.box _ _) _ _ _ _ :: _) _ _)); refine wpl_box hE rfl rfl rfl ?_; clear hE; intro b2 w hE; simp only [Act.eval, Act.put, List.setIfInBounds_toArray, List.set_cons_zero, List.set_cons_succ, getD_lit, List.getD_cons_succ, List.getD_cons_zero, Value.cells] at hE)
        | ((with_reducible (show Go.wpList _ _ _ (Go.Oper.mk _ (.alloc 36) _ _ _ _ :: _) _ _)); refine wpl_alloc hE rfl rfl (by simp [go_sem]; rfl) ?_; clear hE; intro b4 w hE; simp only [Act.eval, Act.put, List.setIfInBounds_toArray, List.set_cons_zero, List.set_cons_succ, getD_lit, List.getD_cons_succ, List.getD_cons_zero, Value.cells] at hE)
        | ((with_reducible (show Go.wpList _ _ _ (Go.Oper.mk _ (.alloc 25) _ _ _ _ :: _) _ _)); refine wpl_alloc hE rfl rfl (by simp [go_sem]; rfl) ?_; clear hE; intro b7 w hE; simp only [Act.eval, Act.put, List.setIfInBounds_toArray, List.set_cons_zero, List.set_cons_succ, getD_lit, List.getD_cons_succ, List.getD_cons_zero, Value.cells] at hE)
        | (go_at_call 36; refine (HS.out _ _ hE).mono ?_; clear hE; rintro e w2 ⟨v, h1, a1, c1, h2, hE⟩; cases h1; cases h2)
        | ((with_reducible (show Go.wpList _ _ _ (Go.Oper.mk _ (.load 25 (.tmp 2)) _ _ _ _ :: _) _ _)); refine wpl_loadW (xs := [.bool t.dir, .string ⟨t.data.toArray⟩, kv]) hE 2 rfl rfl rfl rfl Tryd.isAgg25 Tryd.sizeOf25 rfl ?_)
        | ((with_reducible (show Go.wpList _ _ _ (Go.Oper.mk _ (.load 25 _) _ _ _ _ :: _) _ _)); refine wpl_loadW (xs := [.bool T.dir, .string ⟨T.data.toArray⟩, .slice a9 T.kids.length c9]) hE 0 rfl rfl rfl rfl Tryd.isAgg25 Tryd.sizeOf25 rfl ?_)
        | (go_at_call 37; refine (HAt.out _ _ sfx _ _ (fun w h => reads_row h 0 rfl) hE).mono ?_; clear hE; rintro e w2 ⟨v, h1, kv2, h2, hE, hK⟩; obtain ⟨a9, c9, rfl⟩ := hK.slice; cases h1; cases h2)
        | (go_at_call 38; refine (HSo.out T _ _ _ hE).mono ?_; clear hE; rintro e w2 ⟨v, h1, h2, hE⟩; cases h1; cases h2)
        | ((with_reducible (show Go.wpList _ _ _ (Go.Oper.mk _ (.store 25 _ _) _ _ _ _ :: _) _ _)); refine wpl_storeW hE 0 rfl rfl rfl (xs := [.bool T.dir, .string ⟨T.data.toArray⟩, .slice a9 T.kids.length c9]) rfl rfl Tryd.sizeOf25 rfl (by simp [Value.oneCell']) rfl ?_; clear hE; intro w8 hE; simp only [List.set_cons_zero] at hE)
        | ((with_reducible (show Go.wpList _ _ _ (Go.Oper.mk _ (.store 36 _ _) _ _ _ _ :: _) _ _)); refine wpl_storeW hE 2 rfl rfl rfl (xs := [.bool true, .bool T.dir, .string ⟨T.data.toArray⟩]) rfl rfl Tryd.sizeOf36 rfl (by simp [Value.oneCell']) rfl ?_; clear hE; intro w8 hE; simp only [List.set_cons_zero, List.set_cons_succ] at hE))
      refine bodyPost_ret (results_cellA rfl hE 2 rfl rfl Tryd.isAgg36 Tryd.sizeOf36 rfl) rfl ?_
      exact ⟨_, rfl, rfl, [], hE.tail.tail.tail.tail⟩
  · rw [if_neg h0]
    have hne : (splitE p != 0) = true := by simpa using h0
    clear HAt h0 hl6
    generalize splitE p = er at *
    go_enter Tryd.func14, Tryd.ntmps14
    go_wp2_with (first
      | go_skip
      | ((with_reducible (show Go.wpList _ _ _ (Go.Oper.mk _ (.box _ _) _ _ _ _ :: _) _ _)); refine wpl_box hE rfl rfl rfl ?_; clear hE; intro b2 w hE; simp only [Act.eval, Act.put, List.setIfInBounds_toArray, List.set_cons_zero, List.set_cons_succ, getD_lit, List.getD_cons_succ, List.getD_cons_zero, Value.cells] at hE)
      | ((with_reducible (show Go.wpList _ _ _ (Go.Oper.mk _ (.alloc _) _ _ _ _ :: _) _ _)); refine wpl_alloc hE rfl rfl (by simp [go_sem]; rfl) ?_; clear hE; intro b4 w hE; simp only [Act.eval, Act.put, List.setIfInBounds_toArray, List.set_cons_zero, List.set_cons_succ, getD_lit, List.getD_cons_succ, List.getD_cons_zero, Value.cells] at hE)
      | (go_at_call 36; refine (HS.out _ _ hE).mono ?_; clear hE; rintro e w2 ⟨v, h1, a1, c1, h2, hE⟩; cases h1; cases h2)
      | ((with_reducible (show Go.wpList _ _ _ (Go.Oper.mk _ (.store 36 _ _) _ _ _ _ :: _) _ _)); refine wpl_storeW hE 1 rfl rfl rfl (xs := [.bool false, .bool false, .string ⟨#[]⟩]) rfl rfl Tryd.sizeOf36 rfl (by simp [Value.oneCell']) rfl ?_; clear hE; intro w8 hE; simp only [List.set_cons_zero, List.set_cons_succ] at hE))
    refine bodyPost_ret (results_cellA rfl hE 1 rfl rfl Tryd.isAgg36 Tryd.sizeOf36 rfl) rfl ?_
    exact ⟨_, rfl, rfl, [], hE.tail.tail.tail⟩
/-- the program's side of a path is the document's -/
theorem of_same {t : Tr} (ht : Tr.Wf 6 t) (hd : t.dir = true) (hb : t.data = []) (p : List UInt8) : ofP t p = rOf (entT 6 [] t) p := by
  by_cases hp : p = []
  · subst hp
    have hn : (entT 6 [] t).find? (fun x => x.path == []) = none := List.find?_eq_none.2 (fun x hx => by have := (ent_path ht hx).2.2; simpa using this)
    rw [rOf, hn]
    show (if splitE [] = 0 then _ else _) = _
    rw [show splitE [] = 0 from rfl, show splitL [] = [] from rfl, if_pos rfl, if_pos rfl]
    simp only [atT, if_true, hd, hb]
  · rw [rOf_fE hp]
    unfold ofP
    by_cases h0 : splitE p = 0
    · rw [if_pos h0]
      have hs : splitL p = cuts p ∧ (cuts p).all isName = true ∧ (cuts p).length ≤ 6 := by
        unfold splitE at h0
        unfold splitL
        rw [if_neg hp] at h0 ⊢
        split at h0
        · next h1 =>
          rw [if_pos h1]
          split at h0
          · next h2 => rw [if_pos h2]; exact ⟨rfl, h1, h2⟩
          · cases h0
        · cases h0
      have e := fE_at ht (cuts_ne p) hs.2.1 hs.2.2
      rw [join_cuts] at e
      rw [e, hs.1]
      have hg := atT_get (kE := 11) (nE := 10) (by decide) (by decide) (q := cuts p) ht
      cases hq : Tr.get? (cuts p) t with
      | none =>
        rw [if_neg (fun h => by have := hg.1.1 h; rw [hq] at this; cases this)]
      | some k =>
        rw [if_pos (hg.1.2 (by rw [hq]; rfl)), hg.2 k hq]
    · rw [if_neg h0, fE_none]
      intro h
      obtain ⟨y, hy, rfl⟩ := List.mem_map.1 h
      exact h0 (ent_path ht hy).1
end Go.Proofs.YtcpgelpajppgdaaDoor
namespace Go.Proofs.YtcpgelpajppgdaaDoor
open Go.RowKit Go.SL

def W1 : Tr := .nd true [] [([100], .nd true [] [([120], .nd false [97, 98] [])])]
def W2 : Tr := .nd true [] [([100], .nd false [97, 98] [])]
def we1 : List En := [⟨[100], true, []⟩, ⟨[100, 47, 120], false, [97, 98]⟩]
def we2 : List En := [⟨[100], false, [97, 98]⟩]
def wl : List Ch := [⟨[100], ⟨true, true, []⟩, ⟨true, false, [97, 98]⟩⟩, ⟨[100, 47, 120], ⟨true, false, [97, 98]⟩, ⟨false, false, []⟩⟩]
def wm : List Ch := [⟨[100], ⟨true, false, [97, 98]⟩, ⟨true, true, []⟩⟩, ⟨[100, 47, 120], ⟨false, false, []⟩, ⟨true, false, [97, 98]⟩⟩]
set_option maxRecDepth 100000 in
theorem wb1 : buildT we1 = (0, W1) := by kernel_rfl
set_option maxRecDepth 100000 in
theorem wb2 : buildT we2 = (0, W2) := by kernel_rfl
set_option maxRecDepth 100000 in
theorem wa1 : entT 6 [] W1 = we1 := by kernel_rfl
set_option maxRecDepth 100000 in
theorem wa2 : entT 6 [] W2 = we2 := by kernel_rfl
theorem ww1 : Tr.Wf 6 W1 := by
  have h := (build_same we1).2 (by rw [wb1])
  rw [wb1] at h
  exact h.1.2.1
theorem ww2 : Tr.Wf 6 W2 := by
  have h := (build_same we2).2 (by rw [wb2])
  rw [wb2] at h
  exact h.1.2.1
set_option maxRecDepth 100000 in
theorem wd : diffP we1 we2 = wl := by kernel_rfl
theorem wrise {p q : List UInt8} (h : lessP p q = true) : RiseP [p, q] := by
  rw [RiseP, List.pairwise_cons]
  exact ⟨by simpa using h, List.pairwise_singleton _ _⟩
set_option maxRecDepth 100000 in
theorem wlP : lessP [100] [100, 47, 120] = true := by kernel_rfl
open Classical in
set_option maxRecDepth 100000 in
theorem wmay1 : mayB wl = true := by
  rw [mayB, decide_eq_true_iff]
  exact ⟨by kernel_rfl, wrise wlP⟩
open Classical in
set_option maxRecDepth 100000 in
theorem wmay2 : mayB wm = true := by
  rw [mayB, decide_eq_true_iff]
  exact ⟨by kernel_rfl, wrise wlP⟩
set_option maxRecDepth 100000 in
theorem wap1a : ((pairsA we1 wl).all fun p => fitA p.1 p.2) = true := by kernel_rfl
set_option maxRecDepth 100000 in
theorem wap1b : (pairsA we1 wl).filterMap stepA = we2 := by kernel_rfl
theorem wap1 : apR we1 wl = (0, W2) := by rw [apR, if_pos wmay1, if_pos wap1a, wap1b, wb2]
set_option maxRecDepth 100000 in
theorem wap2a : ((pairsA we1 wm).all fun p => fitA p.1 p.2) = false := by kernel_rfl
theorem wap2 : apR we1 wm = (10, .zero) := by rw [apR, if_pos wmay2, if_neg (by rw [wap2a]; decide)]
theorem wrv1 : revP wl = wm := by rw [revP, if_pos wmay1]; rfl
theorem wrv2 : revE wl = 0 := by rw [revE, if_pos wmay1]
set_option maxRecDepth 100000 in
theorem wcma : ((pairsC wl wm).all fun p => fitsB p.1 p.2) = true := by kernel_rfl
set_option maxRecDepth 100000 in
theorem wcmb : (pairsC wl wm).filterMap (fun p => compO p.1 p.2) = [] := by kernel_rfl
theorem wcm1 : cmpP wl wm = [] := by rw [cmpP, wmay1, wmay2, if_pos (by rfl : (true && true) = true), if_pos wcma, wcmb]
theorem wcm2 : cmpE wl wm = 0 := by rw [cmpE, wmay1, wmay2, if_pos (by rfl : (true && true) = true), if_pos wcma]
set_option maxRecDepth 100000 in
theorem word : ordP [97, 47, 98] [97, 33] = -1 := by kernel_rfl
set_option maxRecDepth 100000 in
theorem wof : ofP W1 [100, 47, 120] = ⟨true, false, [97, 98]⟩ := by kernel_rfl
theorem wlen1 : ∀ x ∈ wl, x.path.length ≤ 100000 ∧ x.now.data.length ≤ 1000000 := by
  intro x hx
  simp only [wl, List.mem_cons, List.not_mem_nil, or_false] at hx
  rcases hx with rfl | rfl <;> exact ⟨by decide, by decide⟩
theorem wlen2 : ∀ x ∈ wm, x.path.length ≤ 100000 ∧ x.now.data.length ≤ 1000000 := by
  intro x hx
  simp only [wm, List.mem_cons, List.not_mem_nil, or_false] at hx
  rcases hx with rfl | rfl <;> exact ⟨by decide, by decide⟩
theorem wlen3 : ∀ x ∈ we1, x.data.length ≤ 1000000 := by
  intro x hx
  simp only [we1, List.mem_cons, List.not_mem_nil, or_false] at hx
  rcases hx with rfl | rfl <;> decide
section
variable {P : Program} {ops : Array Oper} {rest : List Oper} {o : Oper} {a : Act} {Q : Exit → Act → World → Prop} {w : World}
/-- a load that is known by a fact -/
theorem wpl_loadF {t : TypeId} {x : Operand} (ho : o.op = .load t x) (hw : Region.wanted o (yielded ops a.tmps) = true) {p : Option Addr} (hx : a.eval x = .pointer p) {v : Value} (hf : (Instr.loadAt t (.pointer p)).run P w = .ok v w) (h : wpList P ops Q rest (a.put o.dst v) w) : wpList P ops Q (o :: rest) a w := by
  refine wpl_run hw (w' := w) (v := v) ?_ h
  simp [execOp, ho, hx, hf]
end
end Go.Proofs.YtcpgelpajppgdaaDoor
