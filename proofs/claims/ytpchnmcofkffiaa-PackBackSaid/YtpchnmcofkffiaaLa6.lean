/-
  What the laws' own writer of things makes: the things' bytes one behind the other, and the packer's error. For at most 60 things with texts of at most 400 bytes.
-/
import Derived.Test.YtpchnmcofkffiaaLa5
namespace Go.Proofs.Ytpchnmcofkffiaa
open Go.RowKit Go.SL

theorem reads_cells {w : World} {b off n c : Nat} {xs : List Value} (h : reads (.slice (some ⟨b, off, none⟩) n c) n xs w) (j : Nat) (u : Value) (hu : xs[j]? = some u) : w.cell? ⟨b, off + j, none⟩ = some u := by
  obtain ⟨ao, c', e, _, h2⟩ := h
  cases e
  rw [← Addr.add_lit]
  exact h2 _ rfl j u hu

def thingOk (x : Thing) : Bool := if x.what == 0 then numOk x.width x.num else if x.what == 1 then true else if x.what == 2 then true else decide (x.text.length < 256)
def thingB (x : Thing) : List UInt8 := if x.what == 0 then be x.width.toNat x.num else if x.what == 1 then hash32 x.text else if x.what == 2 then x.text else UInt8.ofNat x.text.length :: x.text

def putsB (xs : List Thing) : List UInt8 := (xs.filter thingOk).flatMap thingB
def putsE (xs : List Thing) : Int := if xs.all thingOk then 0 else 6

theorem putsB_snoc (xs : List Thing) (x : Thing) : putsB (xs ++ [x]) = pbs (thingOk x) (putsB xs) (thingB x) := by
  unfold putsB pbs
  rw [List.filter_append, List.flatMap_append]
  cases h : thingOk x <;> simp [List.filter_cons, h]

theorem putsE_snoc (xs : List Thing) (x : Thing) : putsE (xs ++ [x]) = perr (thingOk x) (putsE xs) := by
  unfold putsE perr orLimit
  rw [List.all_append]
  cases h : thingOk x <;> cases h2 : xs.all thingOk <;> simp [h]

theorem thingB_length (x : Thing) (ht : x.text.length ≤ 400) (hk : thingOk x = true) : (thingB x).length ≤ 401 := by
  unfold thingB
  split
  · rename_i h
    rw [be_length]
    unfold thingOk at hk
    rw [if_pos h] at hk
    simp only [numOk, wideB, Bool.and_eq_true, Bool.or_eq_true, beq_iff_eq] at hk
    omega
  · split
    · rw [hash32_length]; omega
    · split
      · omega
      · simp; omega

theorem putsB_length (xs : List Thing) (ht : ∀ x ∈ xs, x.text.length ≤ 400) : (putsB xs).length ≤ 401 * xs.length := by
  induction xs with
  | nil => simp [putsB]
  | cons x xs ih =>
    have h1 := ih (fun y hy => ht y (by simp [hy]))
    have h2 := thingB_length x (ht x (by simp))
    unfold putsB at h1 ⊢
    cases h : thingOk x with
    | false => simp [List.filter_cons, h]; simp at h1; omega
    | true => simp [List.filter_cons, h]; simp at h1; have := h2 h; omega

theorem great_false {xs : List Thing} (h : greatV xs = false) : xs.length ≤ 60 ∧ ∀ x ∈ xs, x.text.length ≤ 400 := by
  simpa [greatV] using h

theorem what_eq (u : UInt8) (n : Nat) (h : ((u.toNat : Int) == (n : Int)) = true) (hn : n < 256 := by omega) : (u == UInt8.ofNat n) = true := by
  simp only [beq_iff_eq] at h ⊢
  apply UInt8.toNat_inj.1
  rw [UInt8.toNat_ofNat', show n % 2 ^ 8 = n by omega]
  omega
theorem what_ne (u : UInt8) (n : Nat) (h : ((u.toNat : Int) == (n : Int)) = false) (hn : n < 256 := by omega) : (u == UInt8.ofNat n) = false := by
  simp only [beq_eq_false_iff_ne, ne_eq] at h ⊢
  rintro rfl
  apply h
  rw [UInt8.toNat_ofNat', show n % 2 ^ 8 = n by omega]

/-- the writer of names at any text -/
theorem pName_any (p : Nat) (ys : List UInt8) {l : List HProp} {w : World} {bs : List UInt8} {err : Int} (hE : Ent (packer p bs err :: l) w) (hb : bs.length + 256 ≤ 1099511627776) :
    Calls Try.prog 20 #[.pointer (some ⟨p, 0, none⟩), .string ⟨ys.toArray⟩] w (Ret fun v w' => v = .pointer (some ⟨p, 0, none⟩) ∧ Ent (packer p (pbs (decide (ys.length < 256)) bs (UInt8.ofNat ys.length :: ys)) (perr (decide (ys.length < 256)) err) :: l) w') := by
  cases h : decide (ys.length < 256) with
  | true =>
    have h2 := Name_ok p ys (of_decide_eq_true h) hE hb
    exact h2
  | false =>
    have h2 := Name_bad p ys (by have := of_decide_eq_false h; omega) hE (by omega)
    exact h2

def PutsRel (xs : List Thing) (l : List HProp) (p : Nat) (i : Value) (wr : World) : Prop := ∃ k : Nat, k ≤ xs.length ∧ i = .int .i64 k ∧ Ent (packer p (putsB (xs.take k)) (putsE (xs.take k)) :: l) wr

theorem PutsRel.step {xs : List Thing} {l : List HProp} {p k : Nat} (hlt : k < xs.length) {w : World} (hE : Ent (packer p (pbs (thingOk xs[k]) (putsB (xs.take k)) (thingB xs[k])) (perr (thingOk xs[k]) (putsE (xs.take k))) :: l) w) : PutsRel xs l p (.int .i64 ((k : Int) + 1)) w := by
  refine ⟨k + 1, hlt, by simp, ?_⟩
  rw [List.take_succ_eq_append_getElem hlt, putsB_snoc, putsE_snoc]
  exact hE

set_option maxRecDepth 100000 in
set_option maxHeartbeats 2000000 in
theorem puts_things {xs : List Thing} (hg : greatV xs = false) {l : List HProp} {w : World} (hE : Ent l w) {ao : Option Addr} {c : Nat} (hk : Knows l (reads (.slice ao xs.length c) xs.length (thingCells xs))) :
    Calls Try.prog 15 #[.slice ao xs.length c] w (Ret fun v w' => ∃ p, v = .pointer (some ⟨p, 0, none⟩) ∧ Ent (packer p (putsB xs) (putsE xs) :: l) w') := by
  obtain ⟨h60, h400⟩ := great_false hg
  have H400 := SL.hid h400
  clear hg h400
  rcases Nat.eq_zero_or_pos xs.length with h0 | h0
  · obtain rfl := List.eq_nil_of_length_eq_zero h0
    clear h0 hk
    go_enter Try.func15, Try.ntmps15
    go_wp2_with ((go_at_call 29; have H := New_any hE; refine H.mono ?_; clear H; rintro e w2 ⟨v, rfl, p, rfl, hE⟩))
    go_loop [4] (fun i => i = .int .i64 0) (fun _ => 0)
    case atStart => exact rfl
    case round =>
      obtain rfl := hrel
      go_wp2
      go_ret
      exact ⟨_, rfl, p, rfl, hE⟩
  · obtain ⟨b, off, rfl, _⟩ := reads_form (hk _ hE) h0 (by rw [thingCells, flatMap_len _ 4 Thing.cells_len]; omega)
    go_enter Try.func15, Try.ntmps15
    go_wp2_with ((go_at_call 29; have H := New_any hE; refine H.mono ?_; clear H; rintro e w2 ⟨v, rfl, p, rfl, hE⟩))
    go_loopw [4] (fun i wr => PutsRel xs l p i wr) (fun i _ => xs.length - (intOf i).toNat)
    case atStart => exact ⟨0, Nat.zero_le _, rfl, hE⟩
    case round =>
      obtain ⟨k, hkl, rfl, hE⟩ := hrel
      by_cases hlt : k < xs.length
      · have hr := hk _ hE.tail
        have hc := reads_cells hr
        clear hr
        have hcx : ∀ j v, xs[k].cells[j]? = some v → wr.cell? ((⟨b, off + k * 4, none⟩ : Addr).add j) = some v := by
          intro j v hv
          rw [Addr.add_lit, Nat.add_assoc]
          exact hc _ _ (thing_at hlt j v hv)
        clear hc
        have hb : (putsB (xs.take k)).length + 500 ≤ 1099511627776 := by
          have := putsB_length (xs.take k) (fun x hx => H400.out x (List.mem_of_mem_take hx))
          rw [List.length_take] at this
          omega
        have ht := SL.hid (H400.out xs[k] (List.getElem_mem hlt))
        have hstep := @PutsRel.step xs l p k hlt
        generalize hx : xs[k] = x at *
        have Hx := SL.hid hx
        clear hx
        have Hcx := SL.hid hcx
        clear hcx
        unfold Thing.cells at Hcx
        cases h0 : ((x.what.toNat : Int) == 0) with
        | true =>
          have e0 : (x.what == 0) = true := what_eq x.what 0 h0
          have eo : thingOk x = numOk x.width x.num := by unfold thingOk; rw [if_pos e0]
          have eb : thingB x = be x.width.toNat x.num := by unfold thingB; rw [if_pos e0]
          rw [eo, eb] at hstep
          clear eo eb e0
          go_wp2_with (first | (refine wpl_loadC rfl rfl rfl Try.isAgg27 Try.sizeOf27 [.int .u8 x.what.toNat, .int .i64 x.width, .int .u64 x.num, .string ⟨x.text.toArray⟩] rfl Hcx.out ?_) | (refine wpl_loadW hE 0 rfl rfl rfl rfl Try.isAgg27 Try.sizeOf27 rfl ?_) | (refine wpl_storeW hE 0 rfl rfl rfl rfl rfl Try.sizeOf27 rfl (by simp [Value.oneCell']) rfl ?_; clear hE; intro w hE) | (go_at_call 17; have H := Put_any p x.num x.width (hE.front 1 rfl) (by omega); refine H.mono ?_; clear H; rintro e w2 ⟨v, rfl, rfl, hE⟩; replace hE := hE.front 1 rfl) | (go_at_call 14; have H := Thing_hash x hE; refine H.mono ?_; clear H; rintro e w2 ⟨v, rfl, rfl, hE⟩) | (go_at_call 18; have H := Hash_any p (hash32 x.text) (hash32_length _) (hE.front 1 rfl) (by omega); refine H.mono ?_; clear H; rintro e w2 ⟨v, rfl, rfl, hE⟩; replace hE := hE.front 1 rfl) | (go_at_call 19; have H := Text_any p x.text (hE.front 1 rfl) (by have := ht.out; omega); refine H.mono ?_; clear H; rintro e w2 ⟨v, rfl, rfl, hE⟩; replace hE := hE.front 1 rfl) | (go_at_call 20; have H := pName_any p x.text (hE.front 1 rfl) (by omega); refine H.mono ?_; clear H; rintro e w2 ⟨v, rfl, rfl, hE⟩; replace hE := hE.front 1 rfl) | (refine wpl_alloc hE rfl rfl (by simp [go_sem]; rfl) ?_; clear hE; intro b w hE; simp only [Act.eval, Act.put, List.setIfInBounds_toArray, List.set_cons_zero, List.set_cons_succ, getD_lit, List.getD_cons_succ, List.getD_cons_zero, Value.cells] at hE) | (first | (refine wpl_load1 hE 0 rfl rfl rfl rfl (by simp [go_sem]) rfl ?_) | (refine wpl_load1 hE 1 rfl rfl rfl rfl (by simp [go_sem]) rfl ?_) | (refine wpl_load1 hE 2 rfl rfl rfl rfl (by simp [go_sem]) rfl ?_) | (refine wpl_load1 hE 3 rfl rfl rfl rfl (by simp [go_sem]) rfl ?_) | (refine wpl_load1 hE 4 rfl rfl rfl rfl (by simp [go_sem]) rfl ?_) | (refine wpl_load1 hE 5 rfl rfl rfl rfl (by simp [go_sem]) rfl ?_)))
          go_roundw
          case rel => exact hstep hE.tail
          case measure => simp [intOf]; omega
        | false =>
          have e0 : (x.what == 0) = false := what_ne x.what 0 h0
          cases h1 : ((x.what.toNat : Int) == 1) with
          | true =>
            have e1 : (x.what == 1) = true := what_eq x.what 1 h1
            have eo : thingOk x = true := by unfold thingOk; rw [e0, e1]; rfl
            have eb : thingB x = hash32 x.text := by unfold thingB; rw [e0, e1]; rfl
            rw [eo, eb] at hstep
            clear eo eb e0 e1
            go_wp2_with (first | (refine wpl_loadC rfl rfl rfl Try.isAgg27 Try.sizeOf27 [.int .u8 x.what.toNat, .int .i64 x.width, .int .u64 x.num, .string ⟨x.text.toArray⟩] rfl Hcx.out ?_) | (refine wpl_loadW hE 0 rfl rfl rfl rfl Try.isAgg27 Try.sizeOf27 rfl ?_) | (refine wpl_storeW hE 0 rfl rfl rfl rfl rfl Try.sizeOf27 rfl (by simp [Value.oneCell']) rfl ?_; clear hE; intro w hE) | (go_at_call 17; have H := Put_any p x.num x.width (hE.front 1 rfl) (by omega); refine H.mono ?_; clear H; rintro e w2 ⟨v, rfl, rfl, hE⟩; replace hE := hE.front 1 rfl) | (go_at_call 14; have H := Thing_hash x hE; refine H.mono ?_; clear H; rintro e w2 ⟨v, rfl, rfl, hE⟩) | (go_at_call 18; have H := Hash_any p (hash32 x.text) (hash32_length _) (hE.front 1 rfl) (by omega); refine H.mono ?_; clear H; rintro e w2 ⟨v, rfl, rfl, hE⟩; replace hE := hE.front 1 rfl) | (go_at_call 19; have H := Text_any p x.text (hE.front 1 rfl) (by have := ht.out; omega); refine H.mono ?_; clear H; rintro e w2 ⟨v, rfl, rfl, hE⟩; replace hE := hE.front 1 rfl) | (go_at_call 20; have H := pName_any p x.text (hE.front 1 rfl) (by omega); refine H.mono ?_; clear H; rintro e w2 ⟨v, rfl, rfl, hE⟩; replace hE := hE.front 1 rfl) | (refine wpl_alloc hE rfl rfl (by simp [go_sem]; rfl) ?_; clear hE; intro b w hE; simp only [Act.eval, Act.put, List.setIfInBounds_toArray, List.set_cons_zero, List.set_cons_succ, getD_lit, List.getD_cons_succ, List.getD_cons_zero, Value.cells] at hE) | (first | (refine wpl_load1 hE 0 rfl rfl rfl rfl (by simp [go_sem]) rfl ?_) | (refine wpl_load1 hE 1 rfl rfl rfl rfl (by simp [go_sem]) rfl ?_) | (refine wpl_load1 hE 2 rfl rfl rfl rfl (by simp [go_sem]) rfl ?_) | (refine wpl_load1 hE 3 rfl rfl rfl rfl (by simp [go_sem]) rfl ?_) | (refine wpl_load1 hE 4 rfl rfl rfl rfl (by simp [go_sem]) rfl ?_) | (refine wpl_load1 hE 5 rfl rfl rfl rfl (by simp [go_sem]) rfl ?_)))
            go_roundw
            case rel => exact hstep hE.tail
            case measure => simp [intOf]; omega
          | false =>
            have e1 : (x.what == 1) = false := what_ne x.what 1 h1
            cases h2 : ((x.what.toNat : Int) == 2) with
            | true =>
              have e2 : (x.what == 2) = true := what_eq x.what 2 h2
              have eo : thingOk x = true := by unfold thingOk; rw [e0, e1, e2]; rfl
              have eb : thingB x = x.text := by unfold thingB; rw [e0, e1, e2]; rfl
              rw [eo, eb] at hstep
              clear eo eb e0 e1 e2
              go_wp2_with (first | (refine wpl_loadC rfl rfl rfl Try.isAgg27 Try.sizeOf27 [.int .u8 x.what.toNat, .int .i64 x.width, .int .u64 x.num, .string ⟨x.text.toArray⟩] rfl Hcx.out ?_) | (refine wpl_loadW hE 0 rfl rfl rfl rfl Try.isAgg27 Try.sizeOf27 rfl ?_) | (refine wpl_storeW hE 0 rfl rfl rfl rfl rfl Try.sizeOf27 rfl (by simp [Value.oneCell']) rfl ?_; clear hE; intro w hE) | (go_at_call 17; have H := Put_any p x.num x.width (hE.front 1 rfl) (by omega); refine H.mono ?_; clear H; rintro e w2 ⟨v, rfl, rfl, hE⟩; replace hE := hE.front 1 rfl) | (go_at_call 14; have H := Thing_hash x hE; refine H.mono ?_; clear H; rintro e w2 ⟨v, rfl, rfl, hE⟩) | (go_at_call 18; have H := Hash_any p (hash32 x.text) (hash32_length _) (hE.front 1 rfl) (by omega); refine H.mono ?_; clear H; rintro e w2 ⟨v, rfl, rfl, hE⟩; replace hE := hE.front 1 rfl) | (go_at_call 19; have H := Text_any p x.text (hE.front 1 rfl) (by have := ht.out; omega); refine H.mono ?_; clear H; rintro e w2 ⟨v, rfl, rfl, hE⟩; replace hE := hE.front 1 rfl) | (go_at_call 20; have H := pName_any p x.text (hE.front 1 rfl) (by omega); refine H.mono ?_; clear H; rintro e w2 ⟨v, rfl, rfl, hE⟩; replace hE := hE.front 1 rfl) | (refine wpl_alloc hE rfl rfl (by simp [go_sem]; rfl) ?_; clear hE; intro b w hE; simp only [Act.eval, Act.put, List.setIfInBounds_toArray, List.set_cons_zero, List.set_cons_succ, getD_lit, List.getD_cons_succ, List.getD_cons_zero, Value.cells] at hE) | (first | (refine wpl_load1 hE 0 rfl rfl rfl rfl (by simp [go_sem]) rfl ?_) | (refine wpl_load1 hE 1 rfl rfl rfl rfl (by simp [go_sem]) rfl ?_) | (refine wpl_load1 hE 2 rfl rfl rfl rfl (by simp [go_sem]) rfl ?_) | (refine wpl_load1 hE 3 rfl rfl rfl rfl (by simp [go_sem]) rfl ?_) | (refine wpl_load1 hE 4 rfl rfl rfl rfl (by simp [go_sem]) rfl ?_) | (refine wpl_load1 hE 5 rfl rfl rfl rfl (by simp [go_sem]) rfl ?_)))
              go_roundw
              case rel => exact hstep hE.tail
              case measure => simp [intOf]; omega
            | false =>
              have e2 : (x.what == 2) = false := what_ne x.what 2 h2
              have eo : thingOk x = decide (x.text.length < 256) := by unfold thingOk; rw [e0, e1, e2]; rfl
              have eb : thingB x = UInt8.ofNat x.text.length :: x.text := by unfold thingB; rw [e0, e1, e2]; rfl
              rw [eo, eb] at hstep
              clear eo eb e0 e1 e2
              go_wp2_with (first | (refine wpl_loadC rfl rfl rfl Try.isAgg27 Try.sizeOf27 [.int .u8 x.what.toNat, .int .i64 x.width, .int .u64 x.num, .string ⟨x.text.toArray⟩] rfl Hcx.out ?_) | (refine wpl_loadW hE 0 rfl rfl rfl rfl Try.isAgg27 Try.sizeOf27 rfl ?_) | (refine wpl_storeW hE 0 rfl rfl rfl rfl rfl Try.sizeOf27 rfl (by simp [Value.oneCell']) rfl ?_; clear hE; intro w hE) | (go_at_call 17; have H := Put_any p x.num x.width (hE.front 1 rfl) (by omega); refine H.mono ?_; clear H; rintro e w2 ⟨v, rfl, rfl, hE⟩; replace hE := hE.front 1 rfl) | (go_at_call 14; have H := Thing_hash x hE; refine H.mono ?_; clear H; rintro e w2 ⟨v, rfl, rfl, hE⟩) | (go_at_call 18; have H := Hash_any p (hash32 x.text) (hash32_length _) (hE.front 1 rfl) (by omega); refine H.mono ?_; clear H; rintro e w2 ⟨v, rfl, rfl, hE⟩; replace hE := hE.front 1 rfl) | (go_at_call 19; have H := Text_any p x.text (hE.front 1 rfl) (by have := ht.out; omega); refine H.mono ?_; clear H; rintro e w2 ⟨v, rfl, rfl, hE⟩; replace hE := hE.front 1 rfl) | (go_at_call 20; have H := pName_any p x.text (hE.front 1 rfl) (by omega); refine H.mono ?_; clear H; rintro e w2 ⟨v, rfl, rfl, hE⟩; replace hE := hE.front 1 rfl) | (refine wpl_alloc hE rfl rfl (by simp [go_sem]; rfl) ?_; clear hE; intro b w hE; simp only [Act.eval, Act.put, List.setIfInBounds_toArray, List.set_cons_zero, List.set_cons_succ, getD_lit, List.getD_cons_succ, List.getD_cons_zero, Value.cells] at hE) | (first | (refine wpl_load1 hE 0 rfl rfl rfl rfl (by simp [go_sem]) rfl ?_) | (refine wpl_load1 hE 1 rfl rfl rfl rfl (by simp [go_sem]) rfl ?_) | (refine wpl_load1 hE 2 rfl rfl rfl rfl (by simp [go_sem]) rfl ?_) | (refine wpl_load1 hE 3 rfl rfl rfl rfl (by simp [go_sem]) rfl ?_) | (refine wpl_load1 hE 4 rfl rfl rfl rfl (by simp [go_sem]) rfl ?_) | (refine wpl_load1 hE 5 rfl rfl rfl rfl (by simp [go_sem]) rfl ?_)))
              go_roundw
              case rel => exact hstep hE.tail
              case measure => simp [intOf]; omega
      · have E1 := SL.hid (show k = xs.length by omega)
        go_wp2
        go_ret
        have hk := E1.out
        subst hk
        rw [List.take_length] at hE
        exact ⟨_, rfl, p, rfl, hE⟩
end Go.Proofs.Ytpchnmcofkffiaa
